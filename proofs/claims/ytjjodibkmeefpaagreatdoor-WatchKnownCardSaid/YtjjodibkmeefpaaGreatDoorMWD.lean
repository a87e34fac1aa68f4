import Derived.Test.YtjjodibkmeefpaaGreatDoorMWC
set_option linter.unusedVariables false
set_option linter.unusedSimpArgs false
set_option maxHeartbeats 4000000

namespace Go.Proofs.YtjjodibkmeefpaaGreatDoor
open Go Go.RowKit
attribute [local irreducible] wpList

namespace Wt
inductive Two {α β:Type} (R:α->β->Prop):List α->List β->Prop
 | nil:Two R [] []
 | cons {a:α} {b:β} {l:List α} {m:List β} (h:R a b) (t:Two R l m):Two R (a::l) (b::m)
theorem two_at {α β:Type} {R:α->β->Prop} {cs:List α} {l:List β} (h:Two R cs l):∀{i:Nat} {x:β},l[i]?=some x->∃c,cs[i]?=some c∧R c x:=by
 induction h with
 | nil=>intro i x hx;simp at hx
 | cons hr _ ih =>
  intro i x hx
  cases i with
  | zero =>
   simp only [List.getElem?_cons_zero,Option.some.injEq] at hx
   subst hx
   exact ⟨_,U,hr⟩
  | succ i=>exact ih (by simpa using hx)
theorem two_len {α β:Type} {R:α->β->Prop} {cs:List α} {l:List β} (h:Two R cs l):cs.length=l.length:=by
 induction h with
 | nil=>rfl
 | cons _ _ ih=>simp [ih]
theorem flat_len {s:Nat}:∀{cs:List (List Value)},(∀c∈cs,c.length=s)->cs.flatten.length=cs.length*s
 | [],_=>by simp
 | c::cs,h=>by
  rw [List.flatten_cons,List.length_append,h c (.head _),flat_len (fun d hd=>h d (.tail _ hd)),List.length_cons,Nat.succ_mul,Nat.add_comm]
theorem rl_rows {α:Type} {R:Rep α} {s:Nat} {W:World} {S:Nat->Prop} {g m:Nat} {t:TypeId} {l:List α} {c:List Value} (cs:List (List Value)) (h:W.heap[g]?=some (.cells c.toArray t (0,0))) (hc:c=cs.flatten) (hS:S g) (h3:∀c∈cs,c.length=s) (he:Two (fun c x=>R W S c x) cs l) (hl:l.length=m) (hm:m<=1000):RL s R W S [.slice (some ⟨g,0,none⟩) m m] l:=by
 subst hl hc
 refine ⟨some ⟨g,0,none⟩,l.length,cs.flatten,U,Nat.le_refl _,by omega,(rd_blk (m:=l.length) h ?_).swap (fun _ a e=>by cases e;exact hS),fun i x hx=>?_⟩
 ·rw [flat_len h3,two_len he]
 ·obtain ⟨c,h1,h2⟩:=two_at he hx
  rw [sub_flat (s:=s) cs i c h3 h1]
  exact h2
theorem blk_bs {W:World} {S:Nat->Prop} {g m:Nat} {t:TypeId} {l:List UInt8} {c:List Value} (h:W.heap[g]?=some (.cells c.toArray t (0,0))) (hc:c=l.map u8v) (hS:S g) (hl:l.length=m) (hm:m<=1000):Bs W S (.slice (some ⟨g,0,none⟩) m m) l:=by
 subst hl hc
 exact Bs.mk ((rd_blk (m:=l.length) h (by rw [List.length_map];simp)).swap (fun _ a e=>by cases e;exact hS)) (Nat.le_refl _) (by omega)
end Wt
theorem blk_new {w W:World} {L:List Fact} {g:Nat} {c:List Value} {t:TypeId} (H:St nT w W L) [h:Blk g L c t]:w.heap.size<=g∧g<W.heap.size:=⟨(H.own _ h.mem g rfl).1.resolve_left (fun h=>h),blk_lt H.blk⟩
section
variable {P:Program} {fn:Func} {R:Ending->World->Prop} {n:Nat} {ρ:Nat->Value} {w0 W:World} {T:Nat->Prop} {L:List Fact} {t t' t2 t2':TypeId} {g g2:Nat} {a p q:Tmp} {v:Value} {c d:List Value}
theorem q_cells3 (hr:fn.results=#[.tmp a,.cell p t,.cell q t2]) (H:St T w0 W L) (hv:ev n ρ (.tmp a)=v) (hx:ev n ρ (.tmp p)=.pointer (some ⟨g,0,none⟩)) (hy:ev n ρ (.tmp q)=.pointer (some ⟨g2,0,none⟩)) (ha:aggB P t=some true) (ha2:aggB P t2=some true) [hb:Blk g L c t'] [hb2:Blk g2 L d t2'] (hs:(P.info? t).map (·.size)=some c.length) (hs2:(P.info? t2).map (·.size)=some d.length) (h:R (.returned (.tuple #[v,.agg c.toArray,.agg d.toArray])) W):bodyPost P fn R .ret (st n ρ []) W:=by
 refine ⟨U,.tuple #[v,.agg c.toArray,.agg d.toArray],?_,h⟩
 have hl:(loadVar t ⟨g,0,none⟩).run P W=.ok (.agg c.toArray) W:=loadsM ha hs H.blk
 have hl2:(loadVar t2 ⟨g2,0,none⟩).run P W=.ok (.agg d.toArray) W:=loadsM ha2 hs2 (H.blk (g:=g2))
 have hp:(st n ρ []).tmps.getD p undef=.pointer (some ⟨g,0,none⟩):=by rw [st_getD];exact hx
 have hq:(st n ρ []).tmps.getD q undef=.pointer (some ⟨g2,0,none⟩):=by rw [st_getD];exact hy
 have hw:(st n ρ []).tmps.getD a undef=v:=by rw [st_getD];exact hv
 have hp2:(st n ρ []).tmps[p]?.getD undef=.pointer (some ⟨g,0,none⟩):=by simpa using hp
 have hq2:(st n ρ []).tmps[q]?.getD undef=.pointer (some ⟨g2,0,none⟩):=by simpa using hq
 have hw2:(st n ρ []).tmps[a]?.getD undef=v:=by simpa using hw
 simp [results,hr,hp2,hq2,hw2,asAddr,hl,hl2]
end
namespace Ex
def x:List UInt8:=7::(List.replicate 30 0++[2])
def p3:DPoint:=⟨List.replicate 32 0,3⟩
def t:DTx:=⟨[⟨p3,[]⟩],[⟨1,[]⟩,⟨2,[5,6]⟩],0⟩
def pt:DPoint:=⟨Tx.dig Tx.tTx t,1⟩
def u:DTx:=⟨[⟨pt,[List.replicate 16 0,x]⟩],[⟨1,[]⟩],0⟩
def path:List DBlock:=[⟨zHd,[]⟩,⟨zHd,[t]⟩,⟨zHd,[u]⟩]
theorem len_x:x.length=32:=by decide
theorem len_p3:p3.tx.length=32:=List.length_replicate
theorem len_pt:pt.tx.length=32:=by
 show (Tx.dig Tx.tTx t).length=32
 exact Tx.len_dig
theorem n_p3:I64 p3.n:=by unfold p3 I64;constructor <;> decide
theorem n_pt:I64 pt.n:=by unfold pt I64;constructor <;> decide
theorem i64s:I64 0∧I64 1∧I64 2:=by unfold I64;refine ⟨⟨?_,?_⟩,⟨?_,?_⟩,⟨?_,?_⟩⟩ <;> decide
theorem sum_ne:Old.Bl.sum x≠List.replicate 32 0:=by decide +kernel
theorem ne:beqPoint p3 pt=false:=Bool.eq_false_iff.2 (fun e=>by
 have h:=congrArg DPoint.n (beqPoint_iff.1 e)
 unfold p3 pt at h
 simp at h)
theorem atu:Wt.inAt pt u.ins 0=some 0:=by
 unfold u
 rw [Wt.inAt,if_pos (beqPoint_iff.2 rfl)]
theorem att:Wt.inAt pt t.ins 0=none:=by
 unfold t
 rw [Wt.inAt,ne,if_neg (by simp),Wt.inAt]
theorem found:Wt.found (Tx.dig Tx.tTx) path [5,6]=[⟨pt,⟨2,[5,6]⟩,2⟩]:=by
 have h1:Wt.hitsT (Tx.dig Tx.tTx) t 2 [5,6]=[⟨pt,⟨2,[5,6]⟩,2⟩]:=by
  unfold Wt.hitsT
  show Wt.hitsO (Tx.dig Tx.tTx) t 2 [5,6] [⟨1,[]⟩,⟨2,[5,6]⟩] 0=_
  rw [Wt.hitsO,if_neg (by decide),Wt.hitsO,if_pos rfl,Wt.hitsO];rfl
 have h2:Wt.hitsT (Tx.dig Tx.tTx) u 1 [5,6]=[]:=by
  unfold Wt.hitsT
  show Wt.hitsO (Tx.dig Tx.tTx) u 1 [5,6] [⟨1,[]⟩] 0=_
  rw [Wt.hitsO,if_neg (by decide),Wt.hitsO]
 show []++((Wt.hitsT (Tx.dig Tx.tTx) t 2 [5,6]++[])++((Wt.hitsT (Tx.dig Tx.tTx) u 1 [5,6]++[])++[]))=_
 rw [h1,h2];rfl
theorem spent:Wt.spent path pt=some (u,0,1):=by
 unfold Wt.spent path
 show Wt.spentN pt 3 [⟨zHd,[]⟩,⟨zHd,[t]⟩,⟨zHd,[u]⟩] 0=_
 simp only [Wt.spentN,Wt.spentB,att,atu]
 rfl
theorem secret:Wt.secret Old.Bl.sum path pt (Old.Bl.sum x)=some x:=by
 unfold Wt.secret
 rw [spent]
 show Wt.secretW Old.Bl.sum (Old.Bl.sum x) [List.replicate 16 0,x]=some x
 rw [Wt.secretW,if_neg (fun h=>absurd h.1 (by decide)),Wt.secretW,if_pos ⟨len_x,rfl⟩]
theorem secret0:Wt.secret Old.Bl.sum path pt (List.replicate 32 0)=none:=by
 unfold Wt.secret
 rw [spent]
 show Wt.secretW Old.Bl.sum (List.replicate 32 0) [List.replicate 16 0,x]=none
 rw [Wt.secretW,if_neg (fun h=>absurd h.1 (by decide)),Wt.secretW,if_neg (fun h=>sum_ne h.2),Wt.secretW]
theorem depth:Wt.depth (Tx.dig Tx.tTx) path (Tx.dig Tx.tTx t)=2:=by
 have h1:Wt.hasId (Tx.dig Tx.tTx) (Tx.dig Tx.tTx t) [t]=true:=by unfold Wt.hasId;simp
 unfold Wt.depth path
 rw [Wt.depthN,if_neg (by decide),Wt.depthN,if_pos h1];rfl
theorem fit:∀b∈path,∀y∈b.txs,Tx.FitW y:=by
 intro b hb y hy
 unfold path at hb
 have h:y=t∨y=u:=by
  simp only [List.mem_cons,List.not_mem_nil,or_false] at hb
  rcases hb with rfl|rfl|rfl
  ·cases hy
  ·exact .inl (List.mem_singleton.1 hy)
  ·exact .inr (List.mem_singleton.1 hy)
 rcases h with rfl|rfl
 ·have k1:∀z∈t.ins,z.wit=[]:=fun z hz=>by rw [List.mem_singleton.1 hz]
  have k2:∀o∈t.outs,o.script.length<=2:=fun o ho=>by
   simp only [t,List.mem_cons,List.not_mem_nil,or_false] at ho
   rcases ho with rfl|rfl <;> decide
  exact ⟨⟨by decide,by decide,fun z hz=>by rw [k1 z hz];exact ⟨by decide,fun b hb=>by cases hb⟩,fun o ho=>by have:=k2 o ho;omega⟩,⟨fun z hz=>by rw [k1 z hz];exact ⟨by decide,fun b hb=>by cases hb⟩,fun o ho=>by have:=k2 o ho;omega⟩,by decide,by decide⟩
 ·have k1:∀z∈u.ins,z.wit.length=2∧∀b∈z.wit,b.length<=32:=fun z hz=>by
   rw [List.mem_singleton.1 hz]
   refine ⟨U,fun b hb=>?_⟩
   simp only [List.mem_cons,List.not_mem_nil,or_false] at hb
   rcases hb with rfl|rfl <;> decide
  have k2:∀o∈u.outs,o.script.length=0:=fun o ho=>by rw [List.mem_singleton.1 ho];rfl
  exact ⟨⟨by decide,by decide,fun z hz=>⟨by rw [(k1 z hz).1];decide,fun b hb=>by have:=(k1 z hz).2 b hb;omega⟩,fun o ho=>by rw [k2 o ho];decide⟩,⟨fun z hz=>⟨by rw [(k1 z hz).1];decide,fun b hb=>by have:=(k1 z hz).2 b hb;omega⟩,fun o ho=>by rw [k2 o ho];decide⟩,by decide,by decide⟩
theorem n_path:(flatP path).length<=100000:=by
 show (Wt.flat 3 path 0).length<=_
 unfold path
 simp [Wt.flat]
section
variable {W:World} {S:Nat->Prop} {a b c d e:TypeId} {gi go gs gj gp gw gm gx:Nat}
theorem rt (h1:W.heap[gi]?=some (.cells (inC p3 none 0 0).toArray a (0,0))) (h2:W.heap[go]?=some (.cells (outC 1 none 0 0++outC 2 (some ⟨gs,0,none⟩) 2 2).toArray b (0,0))) (h3:W.heap[gs]?=some (.cells [Value.int .u8 5,.int .u8 6].toArray c (0,0))) (k1:S gi) (k2:S go) (k3:S gs):RTx W S (txC (some ⟨gi,0,none⟩) 1 1 (some ⟨go,0,none⟩) 2 2 0) t :=
 tx_rep (l:=t.ins) (r:=t.outs) (Wt.rl_rows [inC p3 none 0 0] h1 (by simp) k1 (fun c hc=>by rw [List.mem_singleton.1 hc];exact len_in len_p3) (.cons (in_rep (w:=[]) len_p3 n_p3 rl_nil) .nil) rfl (by decide))
  (Wt.rl_rows [outC 1 none 0 0,outC 2 (some ⟨gs,0,none⟩) 2 2] h2 (by simp) k2 (fun c hc=>by simp at hc;rcases hc with rfl|rfl <;> rfl) (.cons (out_rep (s:=[]) i64s.2.1 Bs.nil) (.cons (out_rep (s:=[5,6]) i64s.2.2 (Wt.blk_bs h3 rfl k3 rfl (by decide))) .nil)) rfl (by decide)) i64s.1
theorem ru (h1:W.heap[gj]?=some (.cells (inC pt (some ⟨gw,0,none⟩) 2 2).toArray a (0,0))) (h2:W.heap[gp]?=some (.cells (outC 1 none 0 0).toArray b (0,0))) (h3:W.heap[gw]?=some (.cells [Value.slice (some ⟨gm,0,none⟩) 16 16,.slice (some ⟨gx,0,none⟩) 32 32].toArray c (0,0))) (h4:W.heap[gm]?=some (.cells ((List.replicate 16 (0:UInt8)).map u8v).toArray d (0,0))) (h5:W.heap[gx]?=some (.cells (x.map u8v).toArray e (0,0))) (k1:S gj) (k2:S gp) (k3:S gw) (k4:S gm) (k5:S gx):RTx W S (txC (some ⟨gj,0,none⟩) 1 1 (some ⟨gp,0,none⟩) 1 1 0) u :=
 tx_rep (l:=u.ins) (r:=u.outs) (Wt.rl_rows [inC pt (some ⟨gw,0,none⟩) 2 2] h1 (by simp) k1 (fun c hc=>by rw [List.mem_singleton.1 hc];exact len_in len_pt) (.cons (in_rep (w:=[List.replicate 16 0,x]) len_pt n_pt (Wt.rl_rows [[.slice (some ⟨gm,0,none⟩) 16 16],[.slice (some ⟨gx,0,none⟩) 32 32]] h3 rfl k3 (fun c hc=>by simp at hc;rcases hc with rfl|rfl <;> rfl) (.cons ⟨_,rfl,Wt.blk_bs h4 rfl k4 List.length_replicate (by decide)⟩ (.cons ⟨_,rfl,Wt.blk_bs h5 rfl k5 len_x (by decide)⟩ .nil)) rfl (by decide))) .nil) rfl (by decide))
  (Wt.rl_rows [outC 1 none 0 0] h2 (by simp) k2 (fun c hc=>by rw [List.mem_singleton.1 hc];rfl) (.cons (out_rep (s:=[]) i64s.2.1 Bs.nil) .nil) rfl (by decide)) i64s.1
theorem rp {ga gb gc:Nat} {ct cu:List Value} (h1:W.heap[ga]?=some (.cells ct.toArray a (0,0))) (h2:W.heap[gb]?=some (.cells cu.toArray b (0,0))) (h3:W.heap[gc]?=some (.cells (bC zHd none 0 0++(bC zHd (some ⟨ga,0,none⟩) 1 1++bC zHd (some ⟨gb,0,none⟩) 1 1)).toArray c (0,0))) (ht:RTx W S ct t) (hu:RTx W S cu u) (lt:ct.length=3) (lu:cu.length=3) (k1:S ga) (k2:S gb) (k3:S gc):RL 66 RBlock W S [.slice (some ⟨gc,0,none⟩) 3 3] path :=
 Wt.rl_rows [bC zHd none 0 0,bC zHd (some ⟨ga,0,none⟩) 1 1,bC zHd (some ⟨gb,0,none⟩) 1 1] h3 (by simp) k3 (fun c hc=>by simp at hc;rcases hc with rfl|rfl|rfl <;> exact lB zHd_ok)
  (.cons (blk_rep (l:=[]) zHd_ok rl_nil) (.cons (blk_rep (l:=[t]) zHd_ok (Wt.rl_rows [ct] h1 (by simp) k1 (fun c hc=>by rw [List.mem_singleton.1 hc];exact lt) (.cons ht .nil) rfl (by decide))) (.cons (blk_rep (l:=[u]) zHd_ok (Wt.rl_rows [cu] h2 (by simp) k2 (fun c hc=>by rw [List.mem_singleton.1 hc];exact lu) (.cons hu .nil) rfl (by decide))) .nil))) rfl (by decide)
end
end Ex
def Fact.ex (S:Nat->Prop) (gc gi go:Nat):Fact:=⟨S,fun W=>RL 66 RBlock W S [.slice (some ⟨gc,0,none⟩) 3 3] Ex.path∧RTx W S (txC (some ⟨gi,0,none⟩) 1 1 (some ⟨go,0,none⟩) 2 2 0) Ex.t,fun _ _ h k=>⟨keeps_L keeps_Block _ _ _ _ _ h.1 (fun g _ hg=>k g hg),keeps_Tx _ _ _ _ _ h.2 (fun g _ hg=>k g hg)⟩⟩
section
variable {n:Nat} {ρ:Nat->Value} {W:World} {o:Oper} {x y:Operand} {h h5 h6:Nat}
theorem b_xpt {d:List UInt8} (hd:d.length=32) (ho:o.op=.build 27 #[(0,x),(1,.const (.int .i64 1))]) (hx:ev n ρ x=.agg (d.map u8v).toArray):Runs Tryz.prog n ρ o W (.agg (pointC ⟨d,1⟩).toArray) W :=
 dB (vs:=pointC ⟨d,1⟩) ho (by
  show Program.built _ _ [(0,ev n ρ x),(1,Value.int .i64 1)]=_
  rw [hx]
  exact (built_fields (places:=[(0,32),(32,1)]) tz27 (by kernel_rfl) (by kernel_rfl) (fN (vs:=d.map u8v) (.agg (d.map u8v).toArray) U U U (by rw [List.length_map];exact hd) (Nat.le_of_ble_eq_true U) (fN (vs:=[.int .i64 1]) (.int .i64 1) U (by simp [hd]) U U (Nat.le_of_ble_eq_true U) (fill_end (by simp [pointC]))))))
theorem b_xin (ho:o.op=.build 71 #[(0,x),(1,y)]) (hx:ev n ρ x=.agg (pointC Ex.pt).toArray) (hy:ev n ρ y=.slice (some ⟨h,0,none⟩) 2 2):Runs Tryz.prog n ρ o W (.agg (inC Ex.pt (some ⟨h,0,none⟩) 2 2).toArray) W :=
 dB (vs:=inC Ex.pt (some ⟨h,0,none⟩) 2 2) ho (by
  show Program.built _ _ [(0,ev n ρ x),(1,ev n ρ y)]=_
  rw [hx,hy]
  exact (built_fields (places:=[(0,33),(33,1)]) tz71 (by kernel_rfl) (by kernel_rfl) (fN (vs:=pointC Ex.pt) (.agg (pointC Ex.pt).toArray) U U U (len_point Ex.len_pt) (Nat.le_of_ble_eq_true U) (fN (vs:=[.slice (some ⟨h,0,none⟩) 2 2]) (.slice (some ⟨h,0,none⟩) 2 2) U (by first|(simp [(len_point Ex.len_pt)];done)|(simp [(len_point Ex.len_pt)];omega)) U U (Nat.le_of_ble_eq_true U) (fill_end (by rfl))))))
theorem b_xtx (ho:o.op=.build 47 #[(0,x),(1,y)]) (hx:ev n ρ x=.slice (some ⟨h5,0,none⟩) 1 1) (hy:ev n ρ y=.slice (some ⟨h6,0,none⟩) 1 1):Runs Tryz.prog n ρ o W (.agg (txC (some ⟨h5,0,none⟩) 1 1 (some ⟨h6,0,none⟩) 1 1 0).toArray) W :=
 dB (vs:=txC (some ⟨h5,0,none⟩) 1 1 (some ⟨h6,0,none⟩) 1 1 0) ho (by
  show Program.built _ _ [(0,ev n ρ x),(1,ev n ρ y)]=_
  rw [hx,hy]
  exact (built_fields (places:=[(0,1),(1,1),(2,1)]) tz47 (by kernel_rfl) (by kernel_rfl) (fN (vs:=[.slice (some ⟨h5,0,none⟩) 1 1]) (.slice (some ⟨h5,0,none⟩) 1 1) U U U U (Nat.le_of_ble_eq_true U) (fN (vs:=[.slice (some ⟨h6,0,none⟩) 1 1]) (.slice (some ⟨h6,0,none⟩) 1 1) U (by rfl) U U (Nat.le_of_ble_eq_true U) (fill_end (by rfl))))))
theorem b_xbl (ho:o.op=.build 76 #[(1,x)]) (hx:ev n ρ x=.slice (some ⟨h,0,none⟩) 1 1):Runs Tryz.prog n ρ o W (.agg (bC zHd (some ⟨h,0,none⟩) 1 1).toArray) W :=
 dB (vs:=bC zHd (some ⟨h,0,none⟩) 1 1) ho (by
  show Program.built _ _ [(1,ev n ρ x)]=_
  rw [hx]
  exact (built_fields (places:=[(0,65),(65,1)]) tz76 (by kernel_rfl) (by kernel_rfl) (fill_skip 65 (fN (vs:=[.slice (some ⟨h,0,none⟩) 1 1]) (.slice (some ⟨h,0,none⟩) 1 1) U (by rfl) U U (Nat.le_of_ble_eq_true U) (fill_end (by rfl))))))
end

theorem example13 (w:World) (hG:Gat w 2 formsC) (hB:Old.Gl w):Calls Tryz.prog 23 [].toArray w (Ret (fun v' w'=>∃S gc gi go,v'=.tuple #[.slice (some ⟨gc,0,none⟩) 3 3,.agg (txC (some ⟨gi,0,none⟩) 1 1 (some ⟨go,0,none⟩) 2 2 0).toArray,.agg (Ex.x.map u8v).toArray]∧New w w' (Fact.ex S gc gi go))):=by
 refine kE (l:=[]) Tryz.func23 U U ?_
 have H:=St.start nT w
 refine kR (sAs U (sf (eal [.slice none 0 0,.slice none 0 0,.int .i64 0] tz47 H ?_)))
 clear H;intro g1 W H
 refine sf (eal (List.replicate 32 (u8v 0)) tz25 H ?_)
 clear H;intro g2 W H
 refine lkR (sR (dB (vs:=Ex.x.map u8v) U (by kernel_rfl)) ?_)
 refine sf (eal (List.replicate 32 (u8v 0)) tz25 H ?_)
 clear H;intro gx W H
 refine sf (esk (Ex.x.map u8v) U U U ts25 (by rw [List.length_map];exact Ex.len_x) (all_u8L _) H (by decide) (spl_all (by rw [List.length_map,List.length_replicate];exact Ex.len_x)) ?_)
 clear H;intro W H
 refine lkR (sR (dB (vs:=pointC Ex.p3) U (by kernel_rfl)) ?_)
 refine sR (dB (vs:=inC Ex.p3 none 0 0) U (built_fields (places:=[(0,33),(33,1)]) tz71 (by kernel_rfl) (by kernel_rfl) (fN (vs:=pointC Ex.p3) (.agg (pointC Ex.p3).toArray) U U U (len_point Ex.len_p3) (Nat.le_of_ble_eq_true U) (fill_end (by rfl))))) ?_
 refine sf (ebs (xs:=[.tmp 8]) (vals:=[.agg (inC Ex.p3 none 0 0).toArray]) (vs:=(inC Ex.p3 none 0 0)) U U U U tu44 ts71 ty71 U (by simp [agg_cells,len_in (p:=Ex.p3) Ex.len_p3]) (by simp [agg_cells]) H ?_)
 clear H;intro gi W H
 refine sR (dB (vs:=outC 1 none 0 0) U (by kernel_rfl)) ?_
 refine sf (ebs (xs:=[.const (.int .u8 5),.const (.int .u8 6)]) (vals:=[.int .u8 _,.int .u8 _]) (vs:=[.int .u8 _,.int .u8 _]) U U U U tu23 ts5 ty5 U U U H ?_)
 clear H;intro gs W H
 refine sR (dB (vs:=outC 2 (some ⟨gs,0,none⟩) 2 2) U (built_fields (places:=[(0,1),(1,1)]) tz41 (by kernel_rfl) (by kernel_rfl) (fN (vs:=[.int .i64 2]) (.int .i64 2) U U U U (Nat.le_of_ble_eq_true U) (fN (vs:=[.slice (some ⟨gs,0,none⟩) 2 2]) (.slice (some ⟨gs,0,none⟩) 2 2) U (by rfl) U U (Nat.le_of_ble_eq_true U) (fill_end (by rfl)))))) ?_
 refine sf (ebs (xs:=[.tmp 10,.tmp 12]) (vals:=[.agg (outC 1 none 0 0).toArray,.agg (outC 2 (some ⟨gs,0,none⟩) 2 2).toArray]) (vs:=(outC 1 none 0 0++outC 2 (some ⟨gs,0,none⟩) 2 2)) U U U U tu45 ts41 ty41 U (by simp [agg_cells,outC]) (by simp [agg_cells]) H ?_)
 clear H;intro go W H
 refine sR (dB (vs:=txC (some ⟨gi,0,none⟩) 1 1 (some ⟨go,0,none⟩) 2 2 0) U (built_fields (places:=[(0,1),(1,1),(2,1)]) tz47 (by kernel_rfl) (by kernel_rfl) (fN (vs:=[.slice (some ⟨gi,0,none⟩) 1 1]) (.slice (some ⟨gi,0,none⟩) 1 1) U U U U (Nat.le_of_ble_eq_true U) (fN (vs:=[.slice (some ⟨go,0,none⟩) 2 2]) (.slice (some ⟨go,0,none⟩) 2 2) U (by rfl) U U (Nat.le_of_ble_eq_true U) (fill_end (by rfl)))))) ?_
 refine sf (eal [.slice none 0 0,.slice none 0 0,.int .i64 0] tz47 H ?_)
 clear H;intro gt W H
 refine sf (esk (txC (some ⟨gi,0,none⟩) 1 1 (some ⟨go,0,none⟩) 2 2 0) U U U ts47 U U H (by decide) U ?_)
 clear H;intro W H
 refine ln (kQ (k_cut 15 [5] (fun sl W=>∃gu:Nat,∃gj:Nat,∃gp:Nat,∃gw:Nat,∃gm:Nat,sl=[(5,.pointer (some ⟨gu,0,none⟩))]∧St nT w W [Fact.blk gu (txC (some ⟨gj,0,none⟩) 1 1 (some ⟨gp,0,none⟩) 1 1 0) 47,Fact.blk gj (inC Ex.pt (some ⟨gw,0,none⟩) 2 2) 71,Fact.blk gp (outC 1 none 0 0) 41,Fact.blk gw ([.slice (some ⟨gm,0,none⟩) 16 16,.slice (some ⟨gx,0,none⟩) 32 32]) 23,Fact.blk gm ((List.replicate 16 (0:UInt8)).map u8v) 5,Fact.blk gt (txC (some ⟨gi,0,none⟩) 1 1 (some ⟨go,0,none⟩) 2 2 0) 47,Fact.blk go (outC 1 none 0 0++outC 2 (some ⟨gs,0,none⟩) 2 2) 41,Fact.blk gs ([.int .u8 5,.int .u8 6]) 5,Fact.blk gi (inC Ex.p3 none 0 0) 71,Fact.blk gx (Ex.x.map u8v) 25,Fact.blk g2 (List.replicate 32 (u8v 0)) 25,Fact.blk g1 ([.slice none 0 0,.slice none 0 0,.int .i64 0]) 47]) ?_ (fun sl ρv W hJ=>?_)))
 ·skip
  refine k_drawT (.rd 0 (.rd 4 (.rd 8 (.many 9 [1,3,9,11] fun j=>(bif Nat.beq j 1 then (.rd 2 (.many 7 [3,9,11] fun j=>(bif Nat.beq j 3 then (.many 6 [5,9,11] fun j=>(bif Nat.beq j 5 then (.rd 6 (.many 4 [7,9,11] fun j=>(bif Nat.beq j 7 then (.many 3 [9,11] fun j=>(bif Nat.beq j 9 then (.rd 10 (.ef 11 (.ef 12 .nil))) else (.ef 9 (.rd 10 (.ef 12 .nil))))) else (bif Nat.beq j 9 then (.many 3 [7,11] fun j=>(bif Nat.beq j 7 then (.rd 10 (.ef 11 (.ef 12 .nil))) else (.ef 7 (.rd 10 (.ef 12 .nil))))) else (.many 3 [7,9] fun j=>(bif Nat.beq j 7 then (.ef 9 (.rd 10 (.ef 12 .nil))) else (.ef 7 (.rd 10 (.ef 12 .nil))))))))) else (bif Nat.beq j 9 then (.many 5 [5,11] fun j=>(bif Nat.beq j 5 then (.rd 6 (.many 3 [7,11] fun j=>(bif Nat.beq j 7 then (.rd 10 (.ef 11 (.ef 12 .nil))) else (.ef 7 (.rd 10 (.ef 12 .nil)))))) else (.ef 5 (.rd 6 (.ef 7 (.rd 10 (.ef 12 .nil))))))) else (.many 5 [5,9] fun j=>(bif Nat.beq j 5 then (.rd 6 (.many 3 [7,9] fun j=>(bif Nat.beq j 7 then (.ef 9 (.rd 10 (.ef 12 .nil))) else (.ef 7 (.rd 10 (.ef 12 .nil)))))) else (.ef 5 (.rd 6 (.ef 7 (.rd 10 (.ef 12 .nil)))))))))) else (bif Nat.beq j 9 then (.many 6 [3,11] fun j=>(bif Nat.beq j 3 then (.many 5 [5,11] fun j=>(bif Nat.beq j 5 then (.rd 6 (.many 3 [7,11] fun j=>(bif Nat.beq j 7 then (.rd 10 (.ef 11 (.ef 12 .nil))) else (.ef 7 (.rd 10 (.ef 12 .nil)))))) else (.ef 5 (.rd 6 (.ef 7 (.rd 10 (.ef 12 .nil))))))) else (.ef 3 (.ef 5 (.rd 6 (.ef 7 (.rd 10 (.ef 12 .nil)))))))) else (.many 6 [3,9] fun j=>(bif Nat.beq j 3 then (.many 5 [5,9] fun j=>(bif Nat.beq j 5 then (.rd 6 (.many 3 [7,9] fun j=>(bif Nat.beq j 7 then (.ef 9 (.rd 10 (.ef 12 .nil))) else (.ef 7 (.rd 10 (.ef 12 .nil)))))) else (.ef 5 (.rd 6 (.ef 7 (.rd 10 (.ef 12 .nil))))))) else (.ef 3 (.ef 5 (.rd 6 (.ef 7 (.rd 10 (.ef 12 .nil)))))))))))) else (bif Nat.beq j 3 then (.many 8 [1,5,9,11] fun j=>(bif Nat.beq j 1 then (.rd 2 (.many 6 [5,9,11] fun j=>(bif Nat.beq j 5 then (.rd 6 (.many 4 [7,9,11] fun j=>(bif Nat.beq j 7 then (.many 3 [9,11] fun j=>(bif Nat.beq j 9 then (.rd 10 (.ef 11 (.ef 12 .nil))) else (.ef 9 (.rd 10 (.ef 12 .nil))))) else (bif Nat.beq j 9 then (.many 3 [7,11] fun j=>(bif Nat.beq j 7 then (.rd 10 (.ef 11 (.ef 12 .nil))) else (.ef 7 (.rd 10 (.ef 12 .nil))))) else (.many 3 [7,9] fun j=>(bif Nat.beq j 7 then (.ef 9 (.rd 10 (.ef 12 .nil))) else (.ef 7 (.rd 10 (.ef 12 .nil))))))))) else (bif Nat.beq j 9 then (.many 5 [5,11] fun j=>(bif Nat.beq j 5 then (.rd 6 (.many 3 [7,11] fun j=>(bif Nat.beq j 7 then (.rd 10 (.ef 11 (.ef 12 .nil))) else (.ef 7 (.rd 10 (.ef 12 .nil)))))) else (.ef 5 (.rd 6 (.ef 7 (.rd 10 (.ef 12 .nil))))))) else (.many 5 [5,9] fun j=>(bif Nat.beq j 5 then (.rd 6 (.many 3 [7,9] fun j=>(bif Nat.beq j 7 then (.ef 9 (.rd 10 (.ef 12 .nil))) else (.ef 7 (.rd 10 (.ef 12 .nil)))))) else (.ef 5 (.rd 6 (.ef 7 (.rd 10 (.ef 12 .nil))))))))))) else (bif Nat.beq j 5 then (.many 7 [1,9,11] fun j=>(bif Nat.beq j 1 then (.rd 2 (.rd 6 (.many 4 [7,9,11] fun j=>(bif Nat.beq j 7 then (.many 3 [9,11] fun j=>(bif Nat.beq j 9 then (.rd 10 (.ef 11 (.ef 12 .nil))) else (.ef 9 (.rd 10 (.ef 12 .nil))))) else (bif Nat.beq j 9 then (.many 3 [7,11] fun j=>(bif Nat.beq j 7 then (.rd 10 (.ef 11 (.ef 12 .nil))) else (.ef 7 (.rd 10 (.ef 12 .nil))))) else (.many 3 [7,9] fun j=>(bif Nat.beq j 7 then (.ef 9 (.rd 10 (.ef 12 .nil))) else (.ef 7 (.rd 10 (.ef 12 .nil)))))))))) else (bif Nat.beq j 9 then (.many 6 [1,11] fun j=>(bif Nat.beq j 1 then (.rd 2 (.rd 6 (.many 3 [7,11] fun j=>(bif Nat.beq j 7 then (.rd 10 (.ef 11 (.ef 12 .nil))) else (.ef 7 (.rd 10 (.ef 12 .nil))))))) else (.ef 1 (.rd 2 (.rd 6 (.ef 7 (.rd 10 (.ef 12 .nil)))))))) else (.many 6 [1,9] fun j=>(bif Nat.beq j 1 then (.rd 2 (.rd 6 (.many 3 [7,9] fun j=>(bif Nat.beq j 7 then (.ef 9 (.rd 10 (.ef 12 .nil))) else (.ef 7 (.rd 10 (.ef 12 .nil))))))) else (.ef 1 (.rd 2 (.rd 6 (.ef 7 (.rd 10 (.ef 12 .nil))))))))))) else (bif Nat.beq j 9 then (.many 7 [1,5,11] fun j=>(bif Nat.beq j 1 then (.rd 2 (.many 5 [5,11] fun j=>(bif Nat.beq j 5 then (.rd 6 (.many 3 [7,11] fun j=>(bif Nat.beq j 7 then (.rd 10 (.ef 11 (.ef 12 .nil))) else (.ef 7 (.rd 10 (.ef 12 .nil)))))) else (.ef 5 (.rd 6 (.ef 7 (.rd 10 (.ef 12 .nil)))))))) else (bif Nat.beq j 5 then (.many 6 [1,11] fun j=>(bif Nat.beq j 1 then (.rd 2 (.rd 6 (.many 3 [7,11] fun j=>(bif Nat.beq j 7 then (.rd 10 (.ef 11 (.ef 12 .nil))) else (.ef 7 (.rd 10 (.ef 12 .nil))))))) else (.ef 1 (.rd 2 (.rd 6 (.ef 7 (.rd 10 (.ef 12 .nil)))))))) else (.many 6 [1,5] fun j=>(bif Nat.beq j 1 then (.rd 2 (.ef 5 (.rd 6 (.ef 7 (.rd 10 (.ef 12 .nil)))))) else (.ef 1 (.rd 2 (.rd 6 (.ef 7 (.rd 10 (.ef 12 .nil))))))))))) else (.many 7 [1,5,9] fun j=>(bif Nat.beq j 1 then (.rd 2 (.many 5 [5,9] fun j=>(bif Nat.beq j 5 then (.rd 6 (.many 3 [7,9] fun j=>(bif Nat.beq j 7 then (.ef 9 (.rd 10 (.ef 12 .nil))) else (.ef 7 (.rd 10 (.ef 12 .nil)))))) else (.ef 5 (.rd 6 (.ef 7 (.rd 10 (.ef 12 .nil)))))))) else (bif Nat.beq j 5 then (.many 6 [1,9] fun j=>(bif Nat.beq j 1 then (.rd 2 (.rd 6 (.many 3 [7,9] fun j=>(bif Nat.beq j 7 then (.ef 9 (.rd 10 (.ef 12 .nil))) else (.ef 7 (.rd 10 (.ef 12 .nil))))))) else (.ef 1 (.rd 2 (.rd 6 (.ef 7 (.rd 10 (.ef 12 .nil)))))))) else (.many 6 [1,5] fun j=>(bif Nat.beq j 1 then (.rd 2 (.ef 5 (.rd 6 (.ef 7 (.rd 10 (.ef 12 .nil)))))) else (.ef 1 (.rd 2 (.rd 6 (.ef 7 (.rd 10 (.ef 12 .nil))))))))))))))) else (bif Nat.beq j 9 then (.many 8 [1,3,11] fun j=>(bif Nat.beq j 1 then (.rd 2 (.many 6 [3,11] fun j=>(bif Nat.beq j 3 then (.many 5 [5,11] fun j=>(bif Nat.beq j 5 then (.rd 6 (.many 3 [7,11] fun j=>(bif Nat.beq j 7 then (.rd 10 (.ef 11 (.ef 12 .nil))) else (.ef 7 (.rd 10 (.ef 12 .nil)))))) else (.ef 5 (.rd 6 (.ef 7 (.rd 10 (.ef 12 .nil))))))) else (.ef 3 (.ef 5 (.rd 6 (.ef 7 (.rd 10 (.ef 12 .nil))))))))) else (bif Nat.beq j 3 then (.many 7 [1,5,11] fun j=>(bif Nat.beq j 1 then (.rd 2 (.many 5 [5,11] fun j=>(bif Nat.beq j 5 then (.rd 6 (.many 3 [7,11] fun j=>(bif Nat.beq j 7 then (.rd 10 (.ef 11 (.ef 12 .nil))) else (.ef 7 (.rd 10 (.ef 12 .nil)))))) else (.ef 5 (.rd 6 (.ef 7 (.rd 10 (.ef 12 .nil)))))))) else (bif Nat.beq j 5 then (.many 6 [1,11] fun j=>(bif Nat.beq j 1 then (.rd 2 (.rd 6 (.many 3 [7,11] fun j=>(bif Nat.beq j 7 then (.rd 10 (.ef 11 (.ef 12 .nil))) else (.ef 7 (.rd 10 (.ef 12 .nil))))))) else (.ef 1 (.rd 2 (.rd 6 (.ef 7 (.rd 10 (.ef 12 .nil)))))))) else (.many 6 [1,5] fun j=>(bif Nat.beq j 1 then (.rd 2 (.ef 5 (.rd 6 (.ef 7 (.rd 10 (.ef 12 .nil)))))) else (.ef 1 (.rd 2 (.rd 6 (.ef 7 (.rd 10 (.ef 12 .nil))))))))))) else (.many 7 [1,3] fun j=>(bif Nat.beq j 1 then (.rd 2 (.ef 3 (.ef 5 (.rd 6 (.ef 7 (.rd 10 (.ef 12 .nil))))))) else (.many 6 [1,5] fun j=>(bif Nat.beq j 1 then (.rd 2 (.ef 5 (.rd 6 (.ef 7 (.rd 10 (.ef 12 .nil)))))) else (.ef 1 (.rd 2 (.rd 6 (.ef 7 (.rd 10 (.ef 12 .nil))))))))))))) else (.many 8 [1,3,9] fun j=>(bif Nat.beq j 1 then (.rd 2 (.many 6 [3,9] fun j=>(bif Nat.beq j 3 then (.many 5 [5,9] fun j=>(bif Nat.beq j 5 then (.rd 6 (.many 3 [7,9] fun j=>(bif Nat.beq j 7 then (.ef 9 (.rd 10 (.ef 12 .nil))) else (.ef 7 (.rd 10 (.ef 12 .nil)))))) else (.ef 5 (.rd 6 (.ef 7 (.rd 10 (.ef 12 .nil))))))) else (.ef 3 (.ef 5 (.rd 6 (.ef 7 (.rd 10 (.ef 12 .nil))))))))) else (bif Nat.beq j 3 then (.many 7 [1,5,9] fun j=>(bif Nat.beq j 1 then (.rd 2 (.many 5 [5,9] fun j=>(bif Nat.beq j 5 then (.rd 6 (.many 3 [7,9] fun j=>(bif Nat.beq j 7 then (.ef 9 (.rd 10 (.ef 12 .nil))) else (.ef 7 (.rd 10 (.ef 12 .nil)))))) else (.ef 5 (.rd 6 (.ef 7 (.rd 10 (.ef 12 .nil)))))))) else (bif Nat.beq j 5 then (.many 6 [1,9] fun j=>(bif Nat.beq j 1 then (.rd 2 (.rd 6 (.many 3 [7,9] fun j=>(bif Nat.beq j 7 then (.ef 9 (.rd 10 (.ef 12 .nil))) else (.ef 7 (.rd 10 (.ef 12 .nil))))))) else (.ef 1 (.rd 2 (.rd 6 (.ef 7 (.rd 10 (.ef 12 .nil)))))))) else (.many 6 [1,5] fun j=>(bif Nat.beq j 1 then (.rd 2 (.ef 5 (.rd 6 (.ef 7 (.rd 10 (.ef 12 .nil)))))) else (.ef 1 (.rd 2 (.rd 6 (.ef 7 (.rd 10 (.ef 12 .nil))))))))))) else (.many 7 [1,3] fun j=>(bif Nat.beq j 1 then (.rd 2 (.ef 3 (.ef 5 (.rd 6 (.ef 7 (.rd 10 (.ef 12 .nil))))))) else (.many 6 [1,5] fun j=>(bif Nat.beq j 1 then (.rd 2 (.ef 5 (.rd 6 (.ef 7 (.rd 10 (.ef 12 .nil)))))) else (.ef 1 (.rd 2 (.rd 6 (.ef 7 (.rd 10 (.ef 12 .nil)))))))))))))))))))) [Fact.blk gt (txC (some ⟨gi,0,none⟩) 1 1 (some ⟨go,0,none⟩) 2 2 0) 47,Fact.blk go (outC 1 none 0 0++outC 2 (some ⟨gs,0,none⟩) 2 2) 41,Fact.blk gs ([.int .u8 5,.int .u8 6]) 5,Fact.blk gi (inC Ex.p3 none 0 0) 71,Fact.blk gx (Ex.x.map u8v) 25,Fact.blk g2 (List.replicate 32 (u8v 0)) 25,Fact.blk g1 ([.slice none 0 0,.slice none 0 0,.int .i64 0]) 47] (by kernel_rfl) (by kernel_rfl) H (.refl _) ?_
  clear H;intro W H
  refine tR U (fun W H=>dM (g:=gt) (off:=0) U H (sa (a:=txC (some ⟨gi,0,none⟩) 1 1 (some ⟨go,0,none⟩) 2 2 0) (m:=3) U) U U U U ta47 ts47) (tR U (fun W H=>d_arrA U U tu25 ts5) (tR U (fun W H=>dB (vs:=outC 1 none 0 0) U (by kernel_rfl)) ?_))
  refine t_each ?_ ?_
  ·skip
   refine tf U (eI Tryz.func25 U U (idTP _ (Ex.rt (S:=fun _=>True) (H.blk (g:=gi)) (H.blk (g:=go)) (H.blk (g:=gs)) trivial trivial trivial) (H.gat hG) (H.gl hB)) H ?_)
   clear H;intro W H
   refine ⟨_,fun _ h=>h,H.sb,?_⟩
   refine tR U (fun W H=>b_xpt Tx.len_dig U U) (t_each ?_ ?_)
   ·skip
    refine tf U (e_mks (wn U) U U U U (m:=16) U (by decide) tu23 tz5 tx5 H ?_)
    clear H;intro gm W H
    refine ⟨_,fun _ h=>h,H.sb,?_⟩
    refine t_each ?_ ?_
    ·skip
     refine tf U (ebs (xs:=[.tmp 18,.tmp 19]) (vals:=[.slice (some ⟨gm,0,none⟩) 16 16,.slice (some ⟨gx,0,none⟩) 32 32]) (vs:=[.slice (some ⟨gm,0,none⟩) 16 16,.slice (some ⟨gx,0,none⟩) 32 32]) U U U U tu66 ts23 ty23 U U U H ?_)
     clear H;intro gw W H
     refine ⟨_,fun _ h=>h,H.sb,?_⟩
     refine tR U (fun W H=>b_xin U U U) (t_each ?_ ?_)
     ·skip
      refine tf U (ebs (xs:=[.tmp 21]) (vals:=[.agg (inC Ex.pt (some ⟨gw,0,none⟩) 2 2).toArray]) (vs:=(inC Ex.pt (some ⟨gw,0,none⟩) 2 2)) U U U U tu44 ts71 ty71 U (by simp [agg_cells,len_in Ex.len_pt]) (by simp [agg_cells]) H ?_)
      clear H;intro gj W H
      refine ⟨_,fun _ h=>h,H.sb,?_⟩
      refine t_each ?_ ?_
      ·skip
       refine tf U (ebs (xs:=[.tmp 23]) (vals:=[.agg (outC 1 none 0 0).toArray]) (vs:=(outC 1 none 0 0)) U U U U tu45 ts41 ty41 U (by simp [agg_cells,outC]) (by simp [agg_cells]) H ?_)
       clear H;intro gp W H
       refine ⟨_,fun _ h=>h,H.sb,?_⟩
       refine tR U (fun W H=>b_xtx U U U) (tf U (eal [.slice none 0 0,.slice none 0 0,.int .i64 0] tz47 H ?_))
       clear H;intro gu W H
       refine ⟨_,fun _ h=>h,H.sb,?_⟩
       refine tf U (esk (txC (some ⟨gj,0,none⟩) 1 1 (some ⟨gp,0,none⟩) 1 1 0) U U U ts47 U U H (by decide) U ?_)
       clear H;intro W H
       refine ⟨_,fun _ h=>h,H.sb,?_⟩
       refine t_nil (kn (n_then ?_))
       refine ⟨_,_,U,?_,?_,⟨gu,gj,gp,gw,gm,U,H.pm⟩⟩
       ·with_reducible repeat first|exact .refl|refine .f ?_ ?_ ?_;kernel_rfl;kernel_rfl|refine .u ?_ ?_;kernel_rfl
       ·refine ⟨?_,trivial⟩
        ·exact U
      refine t_each ?_ ?_
      ·skip
       refine tf U (eal [.slice none 0 0,.slice none 0 0,.int .i64 0] tz47 H ?_)
       clear H;intro gu W H
       refine ⟨_,fun _ h=>h,H.sb,?_⟩
       refine tf U (ebs (xs:=[.tmp 23]) (vals:=[.agg (outC 1 none 0 0).toArray]) (vs:=(outC 1 none 0 0)) U U U U tu45 ts41 ty41 U (by simp [agg_cells,outC]) (by simp [agg_cells]) H ?_)
       clear H;intro gp W H
       refine ⟨_,fun _ h=>h,H.sb,?_⟩
       refine tR U (fun W H=>b_xtx U U U) (tf U (esk (txC (some ⟨gj,0,none⟩) 1 1 (some ⟨gp,0,none⟩) 1 1 0) U U U ts47 U U H (by decide) U ?_))
       clear H;intro W H
       refine ⟨_,fun _ h=>h,H.sb,?_⟩
       refine t_nil (kn (n_then ?_))
       refine ⟨_,_,U,?_,?_,⟨gu,gj,gp,gw,gm,U,H.pm⟩⟩
       ·with_reducible repeat first|exact .refl|refine .f ?_ ?_ ?_;kernel_rfl;kernel_rfl|refine .u ?_ ?_;kernel_rfl
       ·refine ⟨?_,trivial⟩
        ·exact U
      exact t_none
     refine t_each ?_ ?_
     ·skip
      refine tf U (ebs (xs:=[.tmp 23]) (vals:=[.agg (outC 1 none 0 0).toArray]) (vs:=(outC 1 none 0 0)) U U U U tu45 ts41 ty41 U (by simp [agg_cells,outC]) (by simp [agg_cells]) H ?_)
      clear H;intro gp W H
      refine ⟨_,fun _ h=>h,H.sb,?_⟩
      refine t_each ?_ ?_
      ·skip
       refine tf U (ebs (xs:=[.tmp 21]) (vals:=[.agg (inC Ex.pt (some ⟨gw,0,none⟩) 2 2).toArray]) (vs:=(inC Ex.pt (some ⟨gw,0,none⟩) 2 2)) U U U U tu44 ts71 ty71 U (by simp [agg_cells,len_in Ex.len_pt]) (by simp [agg_cells]) H ?_)
       clear H;intro gj W H
       refine ⟨_,fun _ h=>h,H.sb,?_⟩
       refine tR U (fun W H=>b_xtx U U U) (tf U (eal [.slice none 0 0,.slice none 0 0,.int .i64 0] tz47 H ?_))
       clear H;intro gu W H
       refine ⟨_,fun _ h=>h,H.sb,?_⟩
       refine tf U (esk (txC (some ⟨gj,0,none⟩) 1 1 (some ⟨gp,0,none⟩) 1 1 0) U U U ts47 U U H (by decide) U ?_)
       clear H;intro W H
       refine ⟨_,fun _ h=>h,H.sb,?_⟩
       refine t_nil (kn (n_then ?_))
       refine ⟨_,_,U,?_,?_,⟨gu,gj,gp,gw,gm,U,H.pm⟩⟩
       ·with_reducible repeat first|exact .refl|refine .f ?_ ?_ ?_;kernel_rfl;kernel_rfl|refine .u ?_ ?_;kernel_rfl
       ·refine ⟨?_,trivial⟩
        ·exact U
      refine t_each ?_ ?_
      ·skip
       refine tf U (eal [.slice none 0 0,.slice none 0 0,.int .i64 0] tz47 H ?_)
       clear H;intro gu W H
       refine ⟨_,fun _ h=>h,H.sb,?_⟩
       refine tf U (ebs (xs:=[.tmp 21]) (vals:=[.agg (inC Ex.pt (some ⟨gw,0,none⟩) 2 2).toArray]) (vs:=(inC Ex.pt (some ⟨gw,0,none⟩) 2 2)) U U U U tu44 ts71 ty71 U (by simp [agg_cells,len_in Ex.len_pt]) (by simp [agg_cells]) H ?_)
       clear H;intro gj W H
       refine ⟨_,fun _ h=>h,H.sb,?_⟩
       refine tR U (fun W H=>b_xtx U U U) (tf U (esk (txC (some ⟨gj,0,none⟩) 1 1 (some ⟨gp,0,none⟩) 1 1 0) U U U ts47 U U H (by decide) U ?_))
       clear H;intro W H
       refine ⟨_,fun _ h=>h,H.sb,?_⟩
       refine t_nil (kn (n_then ?_))
       refine ⟨_,_,U,?_,?_,⟨gu,gj,gp,gw,gm,U,H.pm⟩⟩
       ·with_reducible repeat first|exact .refl|refine .f ?_ ?_ ?_;kernel_rfl;kernel_rfl|refine .u ?_ ?_;kernel_rfl
       ·refine ⟨?_,trivial⟩
        ·exact U
      exact t_none
     refine t_each ?_ ?_
     ·skip
      refine tf U (eal [.slice none 0 0,.slice none 0 0,.int .i64 0] tz47 H ?_)
      clear H;intro gu W H
      refine ⟨_,fun _ h=>h,H.sb,?_⟩
      refine t_each ?_ ?_
      ·skip
       refine tf U (ebs (xs:=[.tmp 21]) (vals:=[.agg (inC Ex.pt (some ⟨gw,0,none⟩) 2 2).toArray]) (vs:=(inC Ex.pt (some ⟨gw,0,none⟩) 2 2)) U U U U tu44 ts71 ty71 U (by simp [agg_cells,len_in Ex.len_pt]) (by simp [agg_cells]) H ?_)
       clear H;intro gj W H
       refine ⟨_,fun _ h=>h,H.sb,?_⟩
       refine tf U (ebs (xs:=[.tmp 23]) (vals:=[.agg (outC 1 none 0 0).toArray]) (vs:=(outC 1 none 0 0)) U U U U tu45 ts41 ty41 U (by simp [agg_cells,outC]) (by simp [agg_cells]) H ?_)
       clear H;intro gp W H
       refine ⟨_,fun _ h=>h,H.sb,?_⟩
       refine tR U (fun W H=>b_xtx U U U) (tf U (esk (txC (some ⟨gj,0,none⟩) 1 1 (some ⟨gp,0,none⟩) 1 1 0) U U U ts47 U U H (by decide) U ?_))
       clear H;intro W H
       refine ⟨_,fun _ h=>h,H.sb,?_⟩
       refine t_nil (kn (n_then ?_))
       refine ⟨_,_,U,?_,?_,⟨gu,gj,gp,gw,gm,U,H.pm⟩⟩
       ·with_reducible repeat first|exact .refl|refine .f ?_ ?_ ?_;kernel_rfl;kernel_rfl|refine .u ?_ ?_;kernel_rfl
       ·refine ⟨?_,trivial⟩
        ·exact U
      refine t_each ?_ ?_
      ·skip
       refine tf U (ebs (xs:=[.tmp 23]) (vals:=[.agg (outC 1 none 0 0).toArray]) (vs:=(outC 1 none 0 0)) U U U U tu45 ts41 ty41 U (by simp [agg_cells,outC]) (by simp [agg_cells]) H ?_)
       clear H;intro gp W H
       refine ⟨_,fun _ h=>h,H.sb,?_⟩
       refine tf U (ebs (xs:=[.tmp 21]) (vals:=[.agg (inC Ex.pt (some ⟨gw,0,none⟩) 2 2).toArray]) (vs:=(inC Ex.pt (some ⟨gw,0,none⟩) 2 2)) U U U U tu44 ts71 ty71 U (by simp [agg_cells,len_in Ex.len_pt]) (by simp [agg_cells]) H ?_)
       clear H;intro gj W H
       refine ⟨_,fun _ h=>h,H.sb,?_⟩
       refine tR U (fun W H=>b_xtx U U U) (tf U (esk (txC (some ⟨gj,0,none⟩) 1 1 (some ⟨gp,0,none⟩) 1 1 0) U U U ts47 U U H (by decide) U ?_))
       clear H;intro W H
       refine ⟨_,fun _ h=>h,H.sb,?_⟩
       refine t_nil (kn (n_then ?_))
       refine ⟨_,_,U,?_,?_,⟨gu,gj,gp,gw,gm,U,H.pm⟩⟩
       ·with_reducible repeat first|exact .refl|refine .f ?_ ?_ ?_;kernel_rfl;kernel_rfl|refine .u ?_ ?_;kernel_rfl
       ·refine ⟨?_,trivial⟩
        ·exact U
      exact t_none
     exact t_none
    refine t_each ?_ ?_
    ·skip
     refine tf U (ebs (xs:=[.tmp 23]) (vals:=[.agg (outC 1 none 0 0).toArray]) (vs:=(outC 1 none 0 0)) U U U U tu45 ts41 ty41 U (by simp [agg_cells,outC]) (by simp [agg_cells]) H ?_)
     clear H;intro gp W H
     refine ⟨_,fun _ h=>h,H.sb,?_⟩
     refine t_each ?_ ?_
     ·skip
      refine tf U (ebs (xs:=[.tmp 18,.tmp 19]) (vals:=[.slice (some ⟨gm,0,none⟩) 16 16,.slice (some ⟨gx,0,none⟩) 32 32]) (vs:=[.slice (some ⟨gm,0,none⟩) 16 16,.slice (some ⟨gx,0,none⟩) 32 32]) U U U U tu66 ts23 ty23 U U U H ?_)
      clear H;intro gw W H
      refine ⟨_,fun _ h=>h,H.sb,?_⟩
      refine tR U (fun W H=>b_xin U U U) (t_each ?_ ?_)
      ·skip
       refine tf U (ebs (xs:=[.tmp 21]) (vals:=[.agg (inC Ex.pt (some ⟨gw,0,none⟩) 2 2).toArray]) (vs:=(inC Ex.pt (some ⟨gw,0,none⟩) 2 2)) U U U U tu44 ts71 ty71 U (by simp [agg_cells,len_in Ex.len_pt]) (by simp [agg_cells]) H ?_)
       clear H;intro gj W H
       refine ⟨_,fun _ h=>h,H.sb,?_⟩
       refine tR U (fun W H=>b_xtx U U U) (tf U (eal [.slice none 0 0,.slice none 0 0,.int .i64 0] tz47 H ?_))
       clear H;intro gu W H
       refine ⟨_,fun _ h=>h,H.sb,?_⟩
       refine tf U (esk (txC (some ⟨gj,0,none⟩) 1 1 (some ⟨gp,0,none⟩) 1 1 0) U U U ts47 U U H (by decide) U ?_)
       clear H;intro W H
       refine ⟨_,fun _ h=>h,H.sb,?_⟩
       refine t_nil (kn (n_then ?_))
       refine ⟨_,_,U,?_,?_,⟨gu,gj,gp,gw,gm,U,H.pm⟩⟩
       ·with_reducible repeat first|exact .refl|refine .f ?_ ?_ ?_;kernel_rfl;kernel_rfl|refine .u ?_ ?_;kernel_rfl
       ·refine ⟨?_,trivial⟩
        ·exact U
      refine t_each ?_ ?_
      ·skip
       refine tf U (eal [.slice none 0 0,.slice none 0 0,.int .i64 0] tz47 H ?_)
       clear H;intro gu W H
       refine ⟨_,fun _ h=>h,H.sb,?_⟩
       refine tf U (ebs (xs:=[.tmp 21]) (vals:=[.agg (inC Ex.pt (some ⟨gw,0,none⟩) 2 2).toArray]) (vs:=(inC Ex.pt (some ⟨gw,0,none⟩) 2 2)) U U U U tu44 ts71 ty71 U (by simp [agg_cells,len_in Ex.len_pt]) (by simp [agg_cells]) H ?_)
       clear H;intro gj W H
       refine ⟨_,fun _ h=>h,H.sb,?_⟩
       refine tR U (fun W H=>b_xtx U U U) (tf U (esk (txC (some ⟨gj,0,none⟩) 1 1 (some ⟨gp,0,none⟩) 1 1 0) U U U ts47 U U H (by decide) U ?_))
       clear H;intro W H
       refine ⟨_,fun _ h=>h,H.sb,?_⟩
       refine t_nil (kn (n_then ?_))
       refine ⟨_,_,U,?_,?_,⟨gu,gj,gp,gw,gm,U,H.pm⟩⟩
       ·with_reducible repeat first|exact .refl|refine .f ?_ ?_ ?_;kernel_rfl;kernel_rfl|refine .u ?_ ?_;kernel_rfl
       ·refine ⟨?_,trivial⟩
        ·exact U
      exact t_none
     refine t_each ?_ ?_
     ·skip
      refine tf U (eal [.slice none 0 0,.slice none 0 0,.int .i64 0] tz47 H ?_)
      clear H;intro gu W H
      refine ⟨_,fun _ h=>h,H.sb,?_⟩
      refine tf U (ebs (xs:=[.tmp 18,.tmp 19]) (vals:=[.slice (some ⟨gm,0,none⟩) 16 16,.slice (some ⟨gx,0,none⟩) 32 32]) (vs:=[.slice (some ⟨gm,0,none⟩) 16 16,.slice (some ⟨gx,0,none⟩) 32 32]) U U U U tu66 ts23 ty23 U U U H ?_)
      clear H;intro gw W H
      refine ⟨_,fun _ h=>h,H.sb,?_⟩
      refine tR U (fun W H=>b_xin U U U) (tf U (ebs (xs:=[.tmp 21]) (vals:=[.agg (inC Ex.pt (some ⟨gw,0,none⟩) 2 2).toArray]) (vs:=(inC Ex.pt (some ⟨gw,0,none⟩) 2 2)) U U U U tu44 ts71 ty71 U (by simp [agg_cells,len_in Ex.len_pt]) (by simp [agg_cells]) H ?_))
      clear H;intro gj W H
      refine ⟨_,fun _ h=>h,H.sb,?_⟩
      refine tR U (fun W H=>b_xtx U U U) (tf U (esk (txC (some ⟨gj,0,none⟩) 1 1 (some ⟨gp,0,none⟩) 1 1 0) U U U ts47 U U H (by decide) U ?_))
      clear H;intro W H
      refine ⟨_,fun _ h=>h,H.sb,?_⟩
      refine t_nil (kn (n_then ?_))
      refine ⟨_,_,U,?_,?_,⟨gu,gj,gp,gw,gm,U,H.pm⟩⟩
      ·with_reducible repeat first|exact .refl|refine .f ?_ ?_ ?_;kernel_rfl;kernel_rfl|refine .u ?_ ?_;kernel_rfl
      ·refine ⟨?_,trivial⟩
       ·exact U
     exact t_none
    refine t_each ?_ ?_
    ·skip
     refine tf U (eal [.slice none 0 0,.slice none 0 0,.int .i64 0] tz47 H ?_)
     clear H;intro gu W H
     refine ⟨_,fun _ h=>h,H.sb,?_⟩
     refine t_each ?_ ?_
     ·skip
      refine tf U (ebs (xs:=[.tmp 18,.tmp 19]) (vals:=[.slice (some ⟨gm,0,none⟩) 16 16,.slice (some ⟨gx,0,none⟩) 32 32]) (vs:=[.slice (some ⟨gm,0,none⟩) 16 16,.slice (some ⟨gx,0,none⟩) 32 32]) U U U U tu66 ts23 ty23 U U U H ?_)
      clear H;intro gw W H
      refine ⟨_,fun _ h=>h,H.sb,?_⟩
      refine tR U (fun W H=>b_xin U U U) (t_each ?_ ?_)
      ·skip
       refine tf U (ebs (xs:=[.tmp 21]) (vals:=[.agg (inC Ex.pt (some ⟨gw,0,none⟩) 2 2).toArray]) (vs:=(inC Ex.pt (some ⟨gw,0,none⟩) 2 2)) U U U U tu44 ts71 ty71 U (by simp [agg_cells,len_in Ex.len_pt]) (by simp [agg_cells]) H ?_)
       clear H;intro gj W H
       refine ⟨_,fun _ h=>h,H.sb,?_⟩
       refine tf U (ebs (xs:=[.tmp 23]) (vals:=[.agg (outC 1 none 0 0).toArray]) (vs:=(outC 1 none 0 0)) U U U U tu45 ts41 ty41 U (by simp [agg_cells,outC]) (by simp [agg_cells]) H ?_)
       clear H;intro gp W H
       refine ⟨_,fun _ h=>h,H.sb,?_⟩
       refine tR U (fun W H=>b_xtx U U U) (tf U (esk (txC (some ⟨gj,0,none⟩) 1 1 (some ⟨gp,0,none⟩) 1 1 0) U U U ts47 U U H (by decide) U ?_))
       clear H;intro W H
       refine ⟨_,fun _ h=>h,H.sb,?_⟩
       refine t_nil (kn (n_then ?_))
       refine ⟨_,_,U,?_,?_,⟨gu,gj,gp,gw,gm,U,H.pm⟩⟩
       ·with_reducible repeat first|exact .refl|refine .f ?_ ?_ ?_;kernel_rfl;kernel_rfl|refine .u ?_ ?_;kernel_rfl
       ·refine ⟨?_,trivial⟩
        ·exact U
      refine t_each ?_ ?_
      ·skip
       refine tf U (ebs (xs:=[.tmp 23]) (vals:=[.agg (outC 1 none 0 0).toArray]) (vs:=(outC 1 none 0 0)) U U U U tu45 ts41 ty41 U (by simp [agg_cells,outC]) (by simp [agg_cells]) H ?_)
       clear H;intro gp W H
       refine ⟨_,fun _ h=>h,H.sb,?_⟩
       refine tf U (ebs (xs:=[.tmp 21]) (vals:=[.agg (inC Ex.pt (some ⟨gw,0,none⟩) 2 2).toArray]) (vs:=(inC Ex.pt (some ⟨gw,0,none⟩) 2 2)) U U U U tu44 ts71 ty71 U (by simp [agg_cells,len_in Ex.len_pt]) (by simp [agg_cells]) H ?_)
       clear H;intro gj W H
       refine ⟨_,fun _ h=>h,H.sb,?_⟩
       refine tR U (fun W H=>b_xtx U U U) (tf U (esk (txC (some ⟨gj,0,none⟩) 1 1 (some ⟨gp,0,none⟩) 1 1 0) U U U ts47 U U H (by decide) U ?_))
       clear H;intro W H
       refine ⟨_,fun _ h=>h,H.sb,?_⟩
       refine t_nil (kn (n_then ?_))
       refine ⟨_,_,U,?_,?_,⟨gu,gj,gp,gw,gm,U,H.pm⟩⟩
       ·with_reducible repeat first|exact .refl|refine .f ?_ ?_ ?_;kernel_rfl;kernel_rfl|refine .u ?_ ?_;kernel_rfl
       ·refine ⟨?_,trivial⟩
        ·exact U
      exact t_none
     refine t_each ?_ ?_
     ·skip
      refine tf U (ebs (xs:=[.tmp 23]) (vals:=[.agg (outC 1 none 0 0).toArray]) (vs:=(outC 1 none 0 0)) U U U U tu45 ts41 ty41 U (by simp [agg_cells,outC]) (by simp [agg_cells]) H ?_)
      clear H;intro gp W H
      refine ⟨_,fun _ h=>h,H.sb,?_⟩
      refine tf U (ebs (xs:=[.tmp 18,.tmp 19]) (vals:=[.slice (some ⟨gm,0,none⟩) 16 16,.slice (some ⟨gx,0,none⟩) 32 32]) (vs:=[.slice (some ⟨gm,0,none⟩) 16 16,.slice (some ⟨gx,0,none⟩) 32 32]) U U U U tu66 ts23 ty23 U U U H ?_)
      clear H;intro gw W H
      refine ⟨_,fun _ h=>h,H.sb,?_⟩
      refine tR U (fun W H=>b_xin U U U) (tf U (ebs (xs:=[.tmp 21]) (vals:=[.agg (inC Ex.pt (some ⟨gw,0,none⟩) 2 2).toArray]) (vs:=(inC Ex.pt (some ⟨gw,0,none⟩) 2 2)) U U U U tu44 ts71 ty71 U (by simp [agg_cells,len_in Ex.len_pt]) (by simp [agg_cells]) H ?_))
      clear H;intro gj W H
      refine ⟨_,fun _ h=>h,H.sb,?_⟩
      refine tR U (fun W H=>b_xtx U U U) (tf U (esk (txC (some ⟨gj,0,none⟩) 1 1 (some ⟨gp,0,none⟩) 1 1 0) U U U ts47 U U H (by decide) U ?_))
      clear H;intro W H
      refine ⟨_,fun _ h=>h,H.sb,?_⟩
      refine t_nil (kn (n_then ?_))
      refine ⟨_,_,U,?_,?_,⟨gu,gj,gp,gw,gm,U,H.pm⟩⟩
      ·with_reducible repeat first|exact .refl|refine .f ?_ ?_ ?_;kernel_rfl;kernel_rfl|refine .u ?_ ?_;kernel_rfl
      ·refine ⟨?_,trivial⟩
       ·exact U
     exact t_none
    exact t_none
   refine t_each ?_ ?_
   ·skip
    refine tf U (ebs (xs:=[.tmp 23]) (vals:=[.agg (outC 1 none 0 0).toArray]) (vs:=(outC 1 none 0 0)) U U U U tu45 ts41 ty41 U (by simp [agg_cells,outC]) (by simp [agg_cells]) H ?_)
    clear H;intro gp W H
    refine ⟨_,fun _ h=>h,H.sb,?_⟩
    refine t_each ?_ ?_
    ·skip
     refine tf U (e_mks (wn U) U U U U (m:=16) U (by decide) tu23 tz5 tx5 H ?_)
     clear H;intro gm W H
     refine ⟨_,fun _ h=>h,H.sb,?_⟩
     refine t_each ?_ ?_
     ·skip
      refine tf U (ebs (xs:=[.tmp 18,.tmp 19]) (vals:=[.slice (some ⟨gm,0,none⟩) 16 16,.slice (some ⟨gx,0,none⟩) 32 32]) (vs:=[.slice (some ⟨gm,0,none⟩) 16 16,.slice (some ⟨gx,0,none⟩) 32 32]) U U U U tu66 ts23 ty23 U U U H ?_)
      clear H;intro gw W H
      refine ⟨_,fun _ h=>h,H.sb,?_⟩
      refine tR U (fun W H=>b_xin U U U) (t_each ?_ ?_)
      ·skip
       refine tf U (ebs (xs:=[.tmp 21]) (vals:=[.agg (inC Ex.pt (some ⟨gw,0,none⟩) 2 2).toArray]) (vs:=(inC Ex.pt (some ⟨gw,0,none⟩) 2 2)) U U U U tu44 ts71 ty71 U (by simp [agg_cells,len_in Ex.len_pt]) (by simp [agg_cells]) H ?_)
       clear H;intro gj W H
       refine ⟨_,fun _ h=>h,H.sb,?_⟩
       refine tR U (fun W H=>b_xtx U U U) (tf U (eal [.slice none 0 0,.slice none 0 0,.int .i64 0] tz47 H ?_))
       clear H;intro gu W H
       refine ⟨_,fun _ h=>h,H.sb,?_⟩
       refine tf U (esk (txC (some ⟨gj,0,none⟩) 1 1 (some ⟨gp,0,none⟩) 1 1 0) U U U ts47 U U H (by decide) U ?_)
       clear H;intro W H
       refine ⟨_,fun _ h=>h,H.sb,?_⟩
       refine t_nil (kn (n_then ?_))
       refine ⟨_,_,U,?_,?_,⟨gu,gj,gp,gw,gm,U,H.pm⟩⟩
       ·with_reducible repeat first|exact .refl|refine .f ?_ ?_ ?_;kernel_rfl;kernel_rfl|refine .u ?_ ?_;kernel_rfl
       ·refine ⟨?_,trivial⟩
        ·exact U
      refine t_each ?_ ?_
      ·skip
       refine tf U (eal [.slice none 0 0,.slice none 0 0,.int .i64 0] tz47 H ?_)
       clear H;intro gu W H
       refine ⟨_,fun _ h=>h,H.sb,?_⟩
       refine tf U (ebs (xs:=[.tmp 21]) (vals:=[.agg (inC Ex.pt (some ⟨gw,0,none⟩) 2 2).toArray]) (vs:=(inC Ex.pt (some ⟨gw,0,none⟩) 2 2)) U U U U tu44 ts71 ty71 U (by simp [agg_cells,len_in Ex.len_pt]) (by simp [agg_cells]) H ?_)
       clear H;intro gj W H
       refine ⟨_,fun _ h=>h,H.sb,?_⟩
       refine tR U (fun W H=>b_xtx U U U) (tf U (esk (txC (some ⟨gj,0,none⟩) 1 1 (some ⟨gp,0,none⟩) 1 1 0) U U U ts47 U U H (by decide) U ?_))
       clear H;intro W H
       refine ⟨_,fun _ h=>h,H.sb,?_⟩
       refine t_nil (kn (n_then ?_))
       refine ⟨_,_,U,?_,?_,⟨gu,gj,gp,gw,gm,U,H.pm⟩⟩
       ·with_reducible repeat first|exact .refl|refine .f ?_ ?_ ?_;kernel_rfl;kernel_rfl|refine .u ?_ ?_;kernel_rfl
       ·refine ⟨?_,trivial⟩
        ·exact U
      exact t_none
     refine t_each ?_ ?_
     ·skip
      refine tf U (eal [.slice none 0 0,.slice none 0 0,.int .i64 0] tz47 H ?_)
      clear H;intro gu W H
      refine ⟨_,fun _ h=>h,H.sb,?_⟩
      refine tf U (ebs (xs:=[.tmp 18,.tmp 19]) (vals:=[.slice (some ⟨gm,0,none⟩) 16 16,.slice (some ⟨gx,0,none⟩) 32 32]) (vs:=[.slice (some ⟨gm,0,none⟩) 16 16,.slice (some ⟨gx,0,none⟩) 32 32]) U U U U tu66 ts23 ty23 U U U H ?_)
      clear H;intro gw W H
      refine ⟨_,fun _ h=>h,H.sb,?_⟩
      refine tR U (fun W H=>b_xin U U U) (tf U (ebs (xs:=[.tmp 21]) (vals:=[.agg (inC Ex.pt (some ⟨gw,0,none⟩) 2 2).toArray]) (vs:=(inC Ex.pt (some ⟨gw,0,none⟩) 2 2)) U U U U tu44 ts71 ty71 U (by simp [agg_cells,len_in Ex.len_pt]) (by simp [agg_cells]) H ?_))
      clear H;intro gj W H
      refine ⟨_,fun _ h=>h,H.sb,?_⟩
      refine tR U (fun W H=>b_xtx U U U) (tf U (esk (txC (some ⟨gj,0,none⟩) 1 1 (some ⟨gp,0,none⟩) 1 1 0) U U U ts47 U U H (by decide) U ?_))
      clear H;intro W H
      refine ⟨_,fun _ h=>h,H.sb,?_⟩
      refine t_nil (kn (n_then ?_))
      refine ⟨_,_,U,?_,?_,⟨gu,gj,gp,gw,gm,U,H.pm⟩⟩
      ·with_reducible repeat first|exact .refl|refine .f ?_ ?_ ?_;kernel_rfl;kernel_rfl|refine .u ?_ ?_;kernel_rfl
      ·refine ⟨?_,trivial⟩
       ·exact U
     exact t_none
    refine t_each ?_ ?_
    ·skip
     refine tf U (eal [.slice none 0 0,.slice none 0 0,.int .i64 0] tz47 H ?_)
     clear H;intro gu W H
     refine ⟨_,fun _ h=>h,H.sb,?_⟩
     refine tf U (e_mks (wn U) U U U U (m:=16) U (by decide) tu23 tz5 tx5 H ?_)
     clear H;intro gm W H
     refine ⟨_,fun _ h=>h,H.sb,?_⟩
     refine tf U (ebs (xs:=[.tmp 18,.tmp 19]) (vals:=[.slice (some ⟨gm,0,none⟩) 16 16,.slice (some ⟨gx,0,none⟩) 32 32]) (vs:=[.slice (some ⟨gm,0,none⟩) 16 16,.slice (some ⟨gx,0,none⟩) 32 32]) U U U U tu66 ts23 ty23 U U U H ?_)
     clear H;intro gw W H
     refine ⟨_,fun _ h=>h,H.sb,?_⟩
     refine tR U (fun W H=>b_xin U U U) (tf U (ebs (xs:=[.tmp 21]) (vals:=[.agg (inC Ex.pt (some ⟨gw,0,none⟩) 2 2).toArray]) (vs:=(inC Ex.pt (some ⟨gw,0,none⟩) 2 2)) U U U U tu44 ts71 ty71 U (by simp [agg_cells,len_in Ex.len_pt]) (by simp [agg_cells]) H ?_))
     clear H;intro gj W H
     refine ⟨_,fun _ h=>h,H.sb,?_⟩
     refine tR U (fun W H=>b_xtx U U U) (tf U (esk (txC (some ⟨gj,0,none⟩) 1 1 (some ⟨gp,0,none⟩) 1 1 0) U U U ts47 U U H (by decide) U ?_))
     clear H;intro W H
     refine ⟨_,fun _ h=>h,H.sb,?_⟩
     refine t_nil (kn (n_then ?_))
     refine ⟨_,_,U,?_,?_,⟨gu,gj,gp,gw,gm,U,H.pm⟩⟩
     ·with_reducible repeat first|exact .refl|refine .f ?_ ?_ ?_;kernel_rfl;kernel_rfl|refine .u ?_ ?_;kernel_rfl
     ·refine ⟨?_,trivial⟩
      ·exact U
    exact t_none
   refine t_each ?_ ?_
   ·skip
    refine tf U (eal [.slice none 0 0,.slice none 0 0,.int .i64 0] tz47 H ?_)
    clear H;intro gu W H
    refine ⟨_,fun _ h=>h,H.sb,?_⟩
    refine t_each ?_ ?_
    ·skip
     refine tf U (e_mks (wn U) U U U U (m:=16) U (by decide) tu23 tz5 tx5 H ?_)
     clear H;intro gm W H
     refine ⟨_,fun _ h=>h,H.sb,?_⟩
     refine t_each ?_ ?_
     ·skip
      refine tf U (ebs (xs:=[.tmp 18,.tmp 19]) (vals:=[.slice (some ⟨gm,0,none⟩) 16 16,.slice (some ⟨gx,0,none⟩) 32 32]) (vs:=[.slice (some ⟨gm,0,none⟩) 16 16,.slice (some ⟨gx,0,none⟩) 32 32]) U U U U tu66 ts23 ty23 U U U H ?_)
      clear H;intro gw W H
      refine ⟨_,fun _ h=>h,H.sb,?_⟩
      refine tR U (fun W H=>b_xin U U U) (t_each ?_ ?_)
      ·skip
       refine tf U (ebs (xs:=[.tmp 21]) (vals:=[.agg (inC Ex.pt (some ⟨gw,0,none⟩) 2 2).toArray]) (vs:=(inC Ex.pt (some ⟨gw,0,none⟩) 2 2)) U U U U tu44 ts71 ty71 U (by simp [agg_cells,len_in Ex.len_pt]) (by simp [agg_cells]) H ?_)
       clear H;intro gj W H
       refine ⟨_,fun _ h=>h,H.sb,?_⟩
       refine tf U (ebs (xs:=[.tmp 23]) (vals:=[.agg (outC 1 none 0 0).toArray]) (vs:=(outC 1 none 0 0)) U U U U tu45 ts41 ty41 U (by simp [agg_cells,outC]) (by simp [agg_cells]) H ?_)
       clear H;intro gp W H
       refine ⟨_,fun _ h=>h,H.sb,?_⟩
       refine tR U (fun W H=>b_xtx U U U) (tf U (esk (txC (some ⟨gj,0,none⟩) 1 1 (some ⟨gp,0,none⟩) 1 1 0) U U U ts47 U U H (by decide) U ?_))
       clear H;intro W H
       refine ⟨_,fun _ h=>h,H.sb,?_⟩
       refine t_nil (kn (n_then ?_))
       refine ⟨_,_,U,?_,?_,⟨gu,gj,gp,gw,gm,U,H.pm⟩⟩
       ·with_reducible repeat first|exact .refl|refine .f ?_ ?_ ?_;kernel_rfl;kernel_rfl|refine .u ?_ ?_;kernel_rfl
       ·refine ⟨?_,trivial⟩
        ·exact U
      refine t_each ?_ ?_
      ·skip
       refine tf U (ebs (xs:=[.tmp 23]) (vals:=[.agg (outC 1 none 0 0).toArray]) (vs:=(outC 1 none 0 0)) U U U U tu45 ts41 ty41 U (by simp [agg_cells,outC]) (by simp [agg_cells]) H ?_)
       clear H;intro gp W H
       refine ⟨_,fun _ h=>h,H.sb,?_⟩
       refine tf U (ebs (xs:=[.tmp 21]) (vals:=[.agg (inC Ex.pt (some ⟨gw,0,none⟩) 2 2).toArray]) (vs:=(inC Ex.pt (some ⟨gw,0,none⟩) 2 2)) U U U U tu44 ts71 ty71 U (by simp [agg_cells,len_in Ex.len_pt]) (by simp [agg_cells]) H ?_)
       clear H;intro gj W H
       refine ⟨_,fun _ h=>h,H.sb,?_⟩
       refine tR U (fun W H=>b_xtx U U U) (tf U (esk (txC (some ⟨gj,0,none⟩) 1 1 (some ⟨gp,0,none⟩) 1 1 0) U U U ts47 U U H (by decide) U ?_))
       clear H;intro W H
       refine ⟨_,fun _ h=>h,H.sb,?_⟩
       refine t_nil (kn (n_then ?_))
       refine ⟨_,_,U,?_,?_,⟨gu,gj,gp,gw,gm,U,H.pm⟩⟩
       ·with_reducible repeat first|exact .refl|refine .f ?_ ?_ ?_;kernel_rfl;kernel_rfl|refine .u ?_ ?_;kernel_rfl
       ·refine ⟨?_,trivial⟩
        ·exact U
      exact t_none
     refine t_each ?_ ?_
     ·skip
      refine tf U (ebs (xs:=[.tmp 23]) (vals:=[.agg (outC 1 none 0 0).toArray]) (vs:=(outC 1 none 0 0)) U U U U tu45 ts41 ty41 U (by simp [agg_cells,outC]) (by simp [agg_cells]) H ?_)
      clear H;intro gp W H
      refine ⟨_,fun _ h=>h,H.sb,?_⟩
      refine tf U (ebs (xs:=[.tmp 18,.tmp 19]) (vals:=[.slice (some ⟨gm,0,none⟩) 16 16,.slice (some ⟨gx,0,none⟩) 32 32]) (vs:=[.slice (some ⟨gm,0,none⟩) 16 16,.slice (some ⟨gx,0,none⟩) 32 32]) U U U U tu66 ts23 ty23 U U U H ?_)
      clear H;intro gw W H
      refine ⟨_,fun _ h=>h,H.sb,?_⟩
      refine tR U (fun W H=>b_xin U U U) (tf U (ebs (xs:=[.tmp 21]) (vals:=[.agg (inC Ex.pt (some ⟨gw,0,none⟩) 2 2).toArray]) (vs:=(inC Ex.pt (some ⟨gw,0,none⟩) 2 2)) U U U U tu44 ts71 ty71 U (by simp [agg_cells,len_in Ex.len_pt]) (by simp [agg_cells]) H ?_))
      clear H;intro gj W H
      refine ⟨_,fun _ h=>h,H.sb,?_⟩
      refine tR U (fun W H=>b_xtx U U U) (tf U (esk (txC (some ⟨gj,0,none⟩) 1 1 (some ⟨gp,0,none⟩) 1 1 0) U U U ts47 U U H (by decide) U ?_))
      clear H;intro W H
      refine ⟨_,fun _ h=>h,H.sb,?_⟩
      refine t_nil (kn (n_then ?_))
      refine ⟨_,_,U,?_,?_,⟨gu,gj,gp,gw,gm,U,H.pm⟩⟩
      ·with_reducible repeat first|exact .refl|refine .f ?_ ?_ ?_;kernel_rfl;kernel_rfl|refine .u ?_ ?_;kernel_rfl
      ·refine ⟨?_,trivial⟩
       ·exact U
     exact t_none
    refine t_each ?_ ?_
    ·skip
     refine tf U (ebs (xs:=[.tmp 23]) (vals:=[.agg (outC 1 none 0 0).toArray]) (vs:=(outC 1 none 0 0)) U U U U tu45 ts41 ty41 U (by simp [agg_cells,outC]) (by simp [agg_cells]) H ?_)
     clear H;intro gp W H
     refine ⟨_,fun _ h=>h,H.sb,?_⟩
     refine tf U (e_mks (wn U) U U U U (m:=16) U (by decide) tu23 tz5 tx5 H ?_)
     clear H;intro gm W H
     refine ⟨_,fun _ h=>h,H.sb,?_⟩
     refine tf U (ebs (xs:=[.tmp 18,.tmp 19]) (vals:=[.slice (some ⟨gm,0,none⟩) 16 16,.slice (some ⟨gx,0,none⟩) 32 32]) (vs:=[.slice (some ⟨gm,0,none⟩) 16 16,.slice (some ⟨gx,0,none⟩) 32 32]) U U U U tu66 ts23 ty23 U U U H ?_)
     clear H;intro gw W H
     refine ⟨_,fun _ h=>h,H.sb,?_⟩
     refine tR U (fun W H=>b_xin U U U) (tf U (ebs (xs:=[.tmp 21]) (vals:=[.agg (inC Ex.pt (some ⟨gw,0,none⟩) 2 2).toArray]) (vs:=(inC Ex.pt (some ⟨gw,0,none⟩) 2 2)) U U U U tu44 ts71 ty71 U (by simp [agg_cells,len_in Ex.len_pt]) (by simp [agg_cells]) H ?_))
     clear H;intro gj W H
     refine ⟨_,fun _ h=>h,H.sb,?_⟩
     refine tR U (fun W H=>b_xtx U U U) (tf U (esk (txC (some ⟨gj,0,none⟩) 1 1 (some ⟨gp,0,none⟩) 1 1 0) U U U ts47 U U H (by decide) U ?_))
     clear H;intro W H
     refine ⟨_,fun _ h=>h,H.sb,?_⟩
     refine t_nil (kn (n_then ?_))
     refine ⟨_,_,U,?_,?_,⟨gu,gj,gp,gw,gm,U,H.pm⟩⟩
     ·with_reducible repeat first|exact .refl|refine .f ?_ ?_ ?_;kernel_rfl;kernel_rfl|refine .u ?_ ?_;kernel_rfl
     ·refine ⟨?_,trivial⟩
      ·exact U
    exact t_none
   exact t_none
  refine t_each ?_ ?_
  ·skip
   refine tf U (e_mks (wn U) U U U U (m:=16) U (by decide) tu23 tz5 tx5 H ?_)
   clear H;intro gm W H
   refine ⟨_,fun _ h=>h,H.sb,?_⟩
   refine t_each ?_ ?_
   ·skip
    refine tf U (eI Tryz.func25 U U (idTP _ (Ex.rt (S:=fun _=>True) (H.blk (g:=gi)) (H.blk (g:=go)) (H.blk (g:=gs)) trivial trivial trivial) (H.gat hG) (H.gl hB)) H ?_)
    clear H;intro W H
    refine ⟨_,fun _ h=>h,H.sb,?_⟩
    refine tR U (fun W H=>b_xpt Tx.len_dig U U) (t_each ?_ ?_)
    ·skip
     refine tf U (ebs (xs:=[.tmp 18,.tmp 19]) (vals:=[.slice (some ⟨gm,0,none⟩) 16 16,.slice (some ⟨gx,0,none⟩) 32 32]) (vs:=[.slice (some ⟨gm,0,none⟩) 16 16,.slice (some ⟨gx,0,none⟩) 32 32]) U U U U tu66 ts23 ty23 U U U H ?_)
     clear H;intro gw W H
     refine ⟨_,fun _ h=>h,H.sb,?_⟩
     refine tR U (fun W H=>b_xin U U U) (t_each ?_ ?_)
     ·skip
      refine tf U (ebs (xs:=[.tmp 21]) (vals:=[.agg (inC Ex.pt (some ⟨gw,0,none⟩) 2 2).toArray]) (vs:=(inC Ex.pt (some ⟨gw,0,none⟩) 2 2)) U U U U tu44 ts71 ty71 U (by simp [agg_cells,len_in Ex.len_pt]) (by simp [agg_cells]) H ?_)
      clear H;intro gj W H
      refine ⟨_,fun _ h=>h,H.sb,?_⟩
      refine t_each ?_ ?_
      ·skip
       refine tf U (ebs (xs:=[.tmp 23]) (vals:=[.agg (outC 1 none 0 0).toArray]) (vs:=(outC 1 none 0 0)) U U U U tu45 ts41 ty41 U (by simp [agg_cells,outC]) (by simp [agg_cells]) H ?_)
       clear H;intro gp W H
       refine ⟨_,fun _ h=>h,H.sb,?_⟩
       refine tR U (fun W H=>b_xtx U U U) (tf U (eal [.slice none 0 0,.slice none 0 0,.int .i64 0] tz47 H ?_))
       clear H;intro gu W H
       refine ⟨_,fun _ h=>h,H.sb,?_⟩
       refine tf U (esk (txC (some ⟨gj,0,none⟩) 1 1 (some ⟨gp,0,none⟩) 1 1 0) U U U ts47 U U H (by decide) U ?_)
       clear H;intro W H
       refine ⟨_,fun _ h=>h,H.sb,?_⟩
       refine t_nil (kn (n_then ?_))
       refine ⟨_,_,U,?_,?_,⟨gu,gj,gp,gw,gm,U,H.pm⟩⟩
       ·with_reducible repeat first|exact .refl|refine .f ?_ ?_ ?_;kernel_rfl;kernel_rfl|refine .u ?_ ?_;kernel_rfl
       ·refine ⟨?_,trivial⟩
        ·exact U
      refine t_each ?_ ?_
      ·skip
       refine tf U (eal [.slice none 0 0,.slice none 0 0,.int .i64 0] tz47 H ?_)
       clear H;intro gu W H
       refine ⟨_,fun _ h=>h,H.sb,?_⟩
       refine tf U (ebs (xs:=[.tmp 23]) (vals:=[.agg (outC 1 none 0 0).toArray]) (vs:=(outC 1 none 0 0)) U U U U tu45 ts41 ty41 U (by simp [agg_cells,outC]) (by simp [agg_cells]) H ?_)
       clear H;intro gp W H
       refine ⟨_,fun _ h=>h,H.sb,?_⟩
       refine tR U (fun W H=>b_xtx U U U) (tf U (esk (txC (some ⟨gj,0,none⟩) 1 1 (some ⟨gp,0,none⟩) 1 1 0) U U U ts47 U U H (by decide) U ?_))
       clear H;intro W H
       refine ⟨_,fun _ h=>h,H.sb,?_⟩
       refine t_nil (kn (n_then ?_))
       refine ⟨_,_,U,?_,?_,⟨gu,gj,gp,gw,gm,U,H.pm⟩⟩
       ·with_reducible repeat first|exact .refl|refine .f ?_ ?_ ?_;kernel_rfl;kernel_rfl|refine .u ?_ ?_;kernel_rfl
       ·refine ⟨?_,trivial⟩
        ·exact U
      exact t_none
     refine t_each ?_ ?_
     ·skip
      refine tf U (ebs (xs:=[.tmp 23]) (vals:=[.agg (outC 1 none 0 0).toArray]) (vs:=(outC 1 none 0 0)) U U U U tu45 ts41 ty41 U (by simp [agg_cells,outC]) (by simp [agg_cells]) H ?_)
      clear H;intro gp W H
      refine ⟨_,fun _ h=>h,H.sb,?_⟩
      refine t_each ?_ ?_
      ·skip
       refine tf U (ebs (xs:=[.tmp 21]) (vals:=[.agg (inC Ex.pt (some ⟨gw,0,none⟩) 2 2).toArray]) (vs:=(inC Ex.pt (some ⟨gw,0,none⟩) 2 2)) U U U U tu44 ts71 ty71 U (by simp [agg_cells,len_in Ex.len_pt]) (by simp [agg_cells]) H ?_)
       clear H;intro gj W H
       refine ⟨_,fun _ h=>h,H.sb,?_⟩
       refine tR U (fun W H=>b_xtx U U U) (tf U (eal [.slice none 0 0,.slice none 0 0,.int .i64 0] tz47 H ?_))
       clear H;intro gu W H
       refine ⟨_,fun _ h=>h,H.sb,?_⟩
       refine tf U (esk (txC (some ⟨gj,0,none⟩) 1 1 (some ⟨gp,0,none⟩) 1 1 0) U U U ts47 U U H (by decide) U ?_)
       clear H;intro W H
       refine ⟨_,fun _ h=>h,H.sb,?_⟩
       refine t_nil (kn (n_then ?_))
       refine ⟨_,_,U,?_,?_,⟨gu,gj,gp,gw,gm,U,H.pm⟩⟩
       ·with_reducible repeat first|exact .refl|refine .f ?_ ?_ ?_;kernel_rfl;kernel_rfl|refine .u ?_ ?_;kernel_rfl
       ·refine ⟨?_,trivial⟩
        ·exact U
      refine t_each ?_ ?_
      ·skip
       refine tf U (eal [.slice none 0 0,.slice none 0 0,.int .i64 0] tz47 H ?_)
       clear H;intro gu W H
       refine ⟨_,fun _ h=>h,H.sb,?_⟩
       refine tf U (ebs (xs:=[.tmp 21]) (vals:=[.agg (inC Ex.pt (some ⟨gw,0,none⟩) 2 2).toArray]) (vs:=(inC Ex.pt (some ⟨gw,0,none⟩) 2 2)) U U U U tu44 ts71 ty71 U (by simp [agg_cells,len_in Ex.len_pt]) (by simp [agg_cells]) H ?_)
       clear H;intro gj W H
       refine ⟨_,fun _ h=>h,H.sb,?_⟩
       refine tR U (fun W H=>b_xtx U U U) (tf U (esk (txC (some ⟨gj,0,none⟩) 1 1 (some ⟨gp,0,none⟩) 1 1 0) U U U ts47 U U H (by decide) U ?_))
       clear H;intro W H
       refine ⟨_,fun _ h=>h,H.sb,?_⟩
       refine t_nil (kn (n_then ?_))
       refine ⟨_,_,U,?_,?_,⟨gu,gj,gp,gw,gm,U,H.pm⟩⟩
       ·with_reducible repeat first|exact .refl|refine .f ?_ ?_ ?_;kernel_rfl;kernel_rfl|refine .u ?_ ?_;kernel_rfl
       ·refine ⟨?_,trivial⟩
        ·exact U
      exact t_none
     refine t_each ?_ ?_
     ·skip
      refine tf U (eal [.slice none 0 0,.slice none 0 0,.int .i64 0] tz47 H ?_)
      clear H;intro gu W H
      refine ⟨_,fun _ h=>h,H.sb,?_⟩
      refine t_each ?_ ?_
      ·skip
       refine tf U (ebs (xs:=[.tmp 21]) (vals:=[.agg (inC Ex.pt (some ⟨gw,0,none⟩) 2 2).toArray]) (vs:=(inC Ex.pt (some ⟨gw,0,none⟩) 2 2)) U U U U tu44 ts71 ty71 U (by simp [agg_cells,len_in Ex.len_pt]) (by simp [agg_cells]) H ?_)
       clear H;intro gj W H
       refine ⟨_,fun _ h=>h,H.sb,?_⟩
       refine tf U (ebs (xs:=[.tmp 23]) (vals:=[.agg (outC 1 none 0 0).toArray]) (vs:=(outC 1 none 0 0)) U U U U tu45 ts41 ty41 U (by simp [agg_cells,outC]) (by simp [agg_cells]) H ?_)
       clear H;intro gp W H
       refine ⟨_,fun _ h=>h,H.sb,?_⟩
       refine tR U (fun W H=>b_xtx U U U) (tf U (esk (txC (some ⟨gj,0,none⟩) 1 1 (some ⟨gp,0,none⟩) 1 1 0) U U U ts47 U U H (by decide) U ?_))
       clear H;intro W H
       refine ⟨_,fun _ h=>h,H.sb,?_⟩
       refine t_nil (kn (n_then ?_))
       refine ⟨_,_,U,?_,?_,⟨gu,gj,gp,gw,gm,U,H.pm⟩⟩
       ·with_reducible repeat first|exact .refl|refine .f ?_ ?_ ?_;kernel_rfl;kernel_rfl|refine .u ?_ ?_;kernel_rfl
       ·refine ⟨?_,trivial⟩
        ·exact U
      refine t_each ?_ ?_
      ·skip
       refine tf U (ebs (xs:=[.tmp 23]) (vals:=[.agg (outC 1 none 0 0).toArray]) (vs:=(outC 1 none 0 0)) U U U U tu45 ts41 ty41 U (by simp [agg_cells,outC]) (by simp [agg_cells]) H ?_)
       clear H;intro gp W H
       refine ⟨_,fun _ h=>h,H.sb,?_⟩
       refine tf U (ebs (xs:=[.tmp 21]) (vals:=[.agg (inC Ex.pt (some ⟨gw,0,none⟩) 2 2).toArray]) (vs:=(inC Ex.pt (some ⟨gw,0,none⟩) 2 2)) U U U U tu44 ts71 ty71 U (by simp [agg_cells,len_in Ex.len_pt]) (by simp [agg_cells]) H ?_)
       clear H;intro gj W H
       refine ⟨_,fun _ h=>h,H.sb,?_⟩
       refine tR U (fun W H=>b_xtx U U U) (tf U (esk (txC (some ⟨gj,0,none⟩) 1 1 (some ⟨gp,0,none⟩) 1 1 0) U U U ts47 U U H (by decide) U ?_))
       clear H;intro W H
       refine ⟨_,fun _ h=>h,H.sb,?_⟩
       refine t_nil (kn (n_then ?_))
       refine ⟨_,_,U,?_,?_,⟨gu,gj,gp,gw,gm,U,H.pm⟩⟩
       ·with_reducible repeat first|exact .refl|refine .f ?_ ?_ ?_;kernel_rfl;kernel_rfl|refine .u ?_ ?_;kernel_rfl
       ·refine ⟨?_,trivial⟩
        ·exact U
      exact t_none
     exact t_none
    refine t_each ?_ ?_
    ·skip
     refine tf U (ebs (xs:=[.tmp 23]) (vals:=[.agg (outC 1 none 0 0).toArray]) (vs:=(outC 1 none 0 0)) U U U U tu45 ts41 ty41 U (by simp [agg_cells,outC]) (by simp [agg_cells]) H ?_)
     clear H;intro gp W H
     refine ⟨_,fun _ h=>h,H.sb,?_⟩
     refine t_each ?_ ?_
     ·skip
      refine tf U (ebs (xs:=[.tmp 18,.tmp 19]) (vals:=[.slice (some ⟨gm,0,none⟩) 16 16,.slice (some ⟨gx,0,none⟩) 32 32]) (vs:=[.slice (some ⟨gm,0,none⟩) 16 16,.slice (some ⟨gx,0,none⟩) 32 32]) U U U U tu66 ts23 ty23 U U U H ?_)
      clear H;intro gw W H
      refine ⟨_,fun _ h=>h,H.sb,?_⟩
      refine tR U (fun W H=>b_xin U U U) (t_each ?_ ?_)
      ·skip
       refine tf U (ebs (xs:=[.tmp 21]) (vals:=[.agg (inC Ex.pt (some ⟨gw,0,none⟩) 2 2).toArray]) (vs:=(inC Ex.pt (some ⟨gw,0,none⟩) 2 2)) U U U U tu44 ts71 ty71 U (by simp [agg_cells,len_in Ex.len_pt]) (by simp [agg_cells]) H ?_)
       clear H;intro gj W H
       refine ⟨_,fun _ h=>h,H.sb,?_⟩
       refine tR U (fun W H=>b_xtx U U U) (tf U (eal [.slice none 0 0,.slice none 0 0,.int .i64 0] tz47 H ?_))
       clear H;intro gu W H
       refine ⟨_,fun _ h=>h,H.sb,?_⟩
       refine tf U (esk (txC (some ⟨gj,0,none⟩) 1 1 (some ⟨gp,0,none⟩) 1 1 0) U U U ts47 U U H (by decide) U ?_)
       clear H;intro W H
       refine ⟨_,fun _ h=>h,H.sb,?_⟩
       refine t_nil (kn (n_then ?_))
       refine ⟨_,_,U,?_,?_,⟨gu,gj,gp,gw,gm,U,H.pm⟩⟩
       ·with_reducible repeat first|exact .refl|refine .f ?_ ?_ ?_;kernel_rfl;kernel_rfl|refine .u ?_ ?_;kernel_rfl
       ·refine ⟨?_,trivial⟩
        ·exact U
      refine t_each ?_ ?_
      ·skip
       refine tf U (eal [.slice none 0 0,.slice none 0 0,.int .i64 0] tz47 H ?_)
       clear H;intro gu W H
       refine ⟨_,fun _ h=>h,H.sb,?_⟩
       refine tf U (ebs (xs:=[.tmp 21]) (vals:=[.agg (inC Ex.pt (some ⟨gw,0,none⟩) 2 2).toArray]) (vs:=(inC Ex.pt (some ⟨gw,0,none⟩) 2 2)) U U U U tu44 ts71 ty71 U (by simp [agg_cells,len_in Ex.len_pt]) (by simp [agg_cells]) H ?_)
       clear H;intro gj W H
       refine ⟨_,fun _ h=>h,H.sb,?_⟩
       refine tR U (fun W H=>b_xtx U U U) (tf U (esk (txC (some ⟨gj,0,none⟩) 1 1 (some ⟨gp,0,none⟩) 1 1 0) U U U ts47 U U H (by decide) U ?_))
       clear H;intro W H
       refine ⟨_,fun _ h=>h,H.sb,?_⟩
       refine t_nil (kn (n_then ?_))
       refine ⟨_,_,U,?_,?_,⟨gu,gj,gp,gw,gm,U,H.pm⟩⟩
       ·with_reducible repeat first|exact .refl|refine .f ?_ ?_ ?_;kernel_rfl;kernel_rfl|refine .u ?_ ?_;kernel_rfl
       ·refine ⟨?_,trivial⟩
        ·exact U
      exact t_none
     refine t_each ?_ ?_
     ·skip
      refine tf U (eal [.slice none 0 0,.slice none 0 0,.int .i64 0] tz47 H ?_)
      clear H;intro gu W H
      refine ⟨_,fun _ h=>h,H.sb,?_⟩
      refine tf U (ebs (xs:=[.tmp 18,.tmp 19]) (vals:=[.slice (some ⟨gm,0,none⟩) 16 16,.slice (some ⟨gx,0,none⟩) 32 32]) (vs:=[.slice (some ⟨gm,0,none⟩) 16 16,.slice (some ⟨gx,0,none⟩) 32 32]) U U U U tu66 ts23 ty23 U U U H ?_)
      clear H;intro gw W H
      refine ⟨_,fun _ h=>h,H.sb,?_⟩
      refine tR U (fun W H=>b_xin U U U) (tf U (ebs (xs:=[.tmp 21]) (vals:=[.agg (inC Ex.pt (some ⟨gw,0,none⟩) 2 2).toArray]) (vs:=(inC Ex.pt (some ⟨gw,0,none⟩) 2 2)) U U U U tu44 ts71 ty71 U (by simp [agg_cells,len_in Ex.len_pt]) (by simp [agg_cells]) H ?_))
      clear H;intro gj W H
      refine ⟨_,fun _ h=>h,H.sb,?_⟩
      refine tR U (fun W H=>b_xtx U U U) (tf U (esk (txC (some ⟨gj,0,none⟩) 1 1 (some ⟨gp,0,none⟩) 1 1 0) U U U ts47 U U H (by decide) U ?_))
      clear H;intro W H
      refine ⟨_,fun _ h=>h,H.sb,?_⟩
      refine t_nil (kn (n_then ?_))
      refine ⟨_,_,U,?_,?_,⟨gu,gj,gp,gw,gm,U,H.pm⟩⟩
      ·with_reducible repeat first|exact .refl|refine .f ?_ ?_ ?_;kernel_rfl;kernel_rfl|refine .u ?_ ?_;kernel_rfl
      ·refine ⟨?_,trivial⟩
       ·exact U
     exact t_none
    refine t_each ?_ ?_
    ·skip
     refine tf U (eal [.slice none 0 0,.slice none 0 0,.int .i64 0] tz47 H ?_)
     clear H;intro gu W H
     refine ⟨_,fun _ h=>h,H.sb,?_⟩
     refine t_each ?_ ?_
     ·skip
      refine tf U (ebs (xs:=[.tmp 18,.tmp 19]) (vals:=[.slice (some ⟨gm,0,none⟩) 16 16,.slice (some ⟨gx,0,none⟩) 32 32]) (vs:=[.slice (some ⟨gm,0,none⟩) 16 16,.slice (some ⟨gx,0,none⟩) 32 32]) U U U U tu66 ts23 ty23 U U U H ?_)
      clear H;intro gw W H
      refine ⟨_,fun _ h=>h,H.sb,?_⟩
      refine tR U (fun W H=>b_xin U U U) (t_each ?_ ?_)
      ·skip
       refine tf U (ebs (xs:=[.tmp 21]) (vals:=[.agg (inC Ex.pt (some ⟨gw,0,none⟩) 2 2).toArray]) (vs:=(inC Ex.pt (some ⟨gw,0,none⟩) 2 2)) U U U U tu44 ts71 ty71 U (by simp [agg_cells,len_in Ex.len_pt]) (by simp [agg_cells]) H ?_)
       clear H;intro gj W H
       refine ⟨_,fun _ h=>h,H.sb,?_⟩
       refine tf U (ebs (xs:=[.tmp 23]) (vals:=[.agg (outC 1 none 0 0).toArray]) (vs:=(outC 1 none 0 0)) U U U U tu45 ts41 ty41 U (by simp [agg_cells,outC]) (by simp [agg_cells]) H ?_)
       clear H;intro gp W H
       refine ⟨_,fun _ h=>h,H.sb,?_⟩
       refine tR U (fun W H=>b_xtx U U U) (tf U (esk (txC (some ⟨gj,0,none⟩) 1 1 (some ⟨gp,0,none⟩) 1 1 0) U U U ts47 U U H (by decide) U ?_))
       clear H;intro W H
       refine ⟨_,fun _ h=>h,H.sb,?_⟩
       refine t_nil (kn (n_then ?_))
       refine ⟨_,_,U,?_,?_,⟨gu,gj,gp,gw,gm,U,H.pm⟩⟩
       ·with_reducible repeat first|exact .refl|refine .f ?_ ?_ ?_;kernel_rfl;kernel_rfl|refine .u ?_ ?_;kernel_rfl
       ·refine ⟨?_,trivial⟩
        ·exact U
      refine t_each ?_ ?_
      ·skip
       refine tf U (ebs (xs:=[.tmp 23]) (vals:=[.agg (outC 1 none 0 0).toArray]) (vs:=(outC 1 none 0 0)) U U U U tu45 ts41 ty41 U (by simp [agg_cells,outC]) (by simp [agg_cells]) H ?_)
       clear H;intro gp W H
       refine ⟨_,fun _ h=>h,H.sb,?_⟩
       refine tf U (ebs (xs:=[.tmp 21]) (vals:=[.agg (inC Ex.pt (some ⟨gw,0,none⟩) 2 2).toArray]) (vs:=(inC Ex.pt (some ⟨gw,0,none⟩) 2 2)) U U U U tu44 ts71 ty71 U (by simp [agg_cells,len_in Ex.len_pt]) (by simp [agg_cells]) H ?_)
       clear H;intro gj W H
       refine ⟨_,fun _ h=>h,H.sb,?_⟩
       refine tR U (fun W H=>b_xtx U U U) (tf U (esk (txC (some ⟨gj,0,none⟩) 1 1 (some ⟨gp,0,none⟩) 1 1 0) U U U ts47 U U H (by decide) U ?_))
       clear H;intro W H
       refine ⟨_,fun _ h=>h,H.sb,?_⟩
       refine t_nil (kn (n_then ?_))
       refine ⟨_,_,U,?_,?_,⟨gu,gj,gp,gw,gm,U,H.pm⟩⟩
       ·with_reducible repeat first|exact .refl|refine .f ?_ ?_ ?_;kernel_rfl;kernel_rfl|refine .u ?_ ?_;kernel_rfl
       ·refine ⟨?_,trivial⟩
        ·exact U
      exact t_none
     refine t_each ?_ ?_
     ·skip
      refine tf U (ebs (xs:=[.tmp 23]) (vals:=[.agg (outC 1 none 0 0).toArray]) (vs:=(outC 1 none 0 0)) U U U U tu45 ts41 ty41 U (by simp [agg_cells,outC]) (by simp [agg_cells]) H ?_)
      clear H;intro gp W H
      refine ⟨_,fun _ h=>h,H.sb,?_⟩
      refine tf U (ebs (xs:=[.tmp 18,.tmp 19]) (vals:=[.slice (some ⟨gm,0,none⟩) 16 16,.slice (some ⟨gx,0,none⟩) 32 32]) (vs:=[.slice (some ⟨gm,0,none⟩) 16 16,.slice (some ⟨gx,0,none⟩) 32 32]) U U U U tu66 ts23 ty23 U U U H ?_)
      clear H;intro gw W H
      refine ⟨_,fun _ h=>h,H.sb,?_⟩
      refine tR U (fun W H=>b_xin U U U) (tf U (ebs (xs:=[.tmp 21]) (vals:=[.agg (inC Ex.pt (some ⟨gw,0,none⟩) 2 2).toArray]) (vs:=(inC Ex.pt (some ⟨gw,0,none⟩) 2 2)) U U U U tu44 ts71 ty71 U (by simp [agg_cells,len_in Ex.len_pt]) (by simp [agg_cells]) H ?_))
      clear H;intro gj W H
      refine ⟨_,fun _ h=>h,H.sb,?_⟩
      refine tR U (fun W H=>b_xtx U U U) (tf U (esk (txC (some ⟨gj,0,none⟩) 1 1 (some ⟨gp,0,none⟩) 1 1 0) U U U ts47 U U H (by decide) U ?_))
      clear H;intro W H
      refine ⟨_,fun _ h=>h,H.sb,?_⟩
      refine t_nil (kn (n_then ?_))
      refine ⟨_,_,U,?_,?_,⟨gu,gj,gp,gw,gm,U,H.pm⟩⟩
      ·with_reducible repeat first|exact .refl|refine .f ?_ ?_ ?_;kernel_rfl;kernel_rfl|refine .u ?_ ?_;kernel_rfl
      ·refine ⟨?_,trivial⟩
       ·exact U
     exact t_none
    exact t_none
   refine t_each ?_ ?_
   ·skip
    refine tf U (ebs (xs:=[.tmp 18,.tmp 19]) (vals:=[.slice (some ⟨gm,0,none⟩) 16 16,.slice (some ⟨gx,0,none⟩) 32 32]) (vs:=[.slice (some ⟨gm,0,none⟩) 16 16,.slice (some ⟨gx,0,none⟩) 32 32]) U U U U tu66 ts23 ty23 U U U H ?_)
    clear H;intro gw W H
    refine ⟨_,fun _ h=>h,H.sb,?_⟩
    refine t_each ?_ ?_
    ·skip
     refine tf U (eI Tryz.func25 U U (idTP _ (Ex.rt (S:=fun _=>True) (H.blk (g:=gi)) (H.blk (g:=go)) (H.blk (g:=gs)) trivial trivial trivial) (H.gat hG) (H.gl hB)) H ?_)
     clear H;intro W H
     refine ⟨_,fun _ h=>h,H.sb,?_⟩
     refine tR U (fun W H=>b_xpt Tx.len_dig U U) (tR U (fun W H=>b_xin U U U) (t_each ?_ ?_))
     ·skip
      refine tf U (ebs (xs:=[.tmp 21]) (vals:=[.agg (inC Ex.pt (some ⟨gw,0,none⟩) 2 2).toArray]) (vs:=(inC Ex.pt (some ⟨gw,0,none⟩) 2 2)) U U U U tu44 ts71 ty71 U (by simp [agg_cells,len_in Ex.len_pt]) (by simp [agg_cells]) H ?_)
      clear H;intro gj W H
      refine ⟨_,fun _ h=>h,H.sb,?_⟩
      refine t_each ?_ ?_
      ·skip
       refine tf U (ebs (xs:=[.tmp 23]) (vals:=[.agg (outC 1 none 0 0).toArray]) (vs:=(outC 1 none 0 0)) U U U U tu45 ts41 ty41 U (by simp [agg_cells,outC]) (by simp [agg_cells]) H ?_)
       clear H;intro gp W H
       refine ⟨_,fun _ h=>h,H.sb,?_⟩
       refine tR U (fun W H=>b_xtx U U U) (tf U (eal [.slice none 0 0,.slice none 0 0,.int .i64 0] tz47 H ?_))
       clear H;intro gu W H
       refine ⟨_,fun _ h=>h,H.sb,?_⟩
       refine tf U (esk (txC (some ⟨gj,0,none⟩) 1 1 (some ⟨gp,0,none⟩) 1 1 0) U U U ts47 U U H (by decide) U ?_)
       clear H;intro W H
       refine ⟨_,fun _ h=>h,H.sb,?_⟩
       refine t_nil (kn (n_then ?_))
       refine ⟨_,_,U,?_,?_,⟨gu,gj,gp,gw,gm,U,H.pm⟩⟩
       ·with_reducible repeat first|exact .refl|refine .f ?_ ?_ ?_;kernel_rfl;kernel_rfl|refine .u ?_ ?_;kernel_rfl
       ·refine ⟨?_,trivial⟩
        ·exact U
      refine t_each ?_ ?_
      ·skip
       refine tf U (eal [.slice none 0 0,.slice none 0 0,.int .i64 0] tz47 H ?_)
       clear H;intro gu W H
       refine ⟨_,fun _ h=>h,H.sb,?_⟩
       refine tf U (ebs (xs:=[.tmp 23]) (vals:=[.agg (outC 1 none 0 0).toArray]) (vs:=(outC 1 none 0 0)) U U U U tu45 ts41 ty41 U (by simp [agg_cells,outC]) (by simp [agg_cells]) H ?_)
       clear H;intro gp W H
       refine ⟨_,fun _ h=>h,H.sb,?_⟩
       refine tR U (fun W H=>b_xtx U U U) (tf U (esk (txC (some ⟨gj,0,none⟩) 1 1 (some ⟨gp,0,none⟩) 1 1 0) U U U ts47 U U H (by decide) U ?_))
       clear H;intro W H
       refine ⟨_,fun _ h=>h,H.sb,?_⟩
       refine t_nil (kn (n_then ?_))
       refine ⟨_,_,U,?_,?_,⟨gu,gj,gp,gw,gm,U,H.pm⟩⟩
       ·with_reducible repeat first|exact .refl|refine .f ?_ ?_ ?_;kernel_rfl;kernel_rfl|refine .u ?_ ?_;kernel_rfl
       ·refine ⟨?_,trivial⟩
        ·exact U
      exact t_none
     refine t_each ?_ ?_
     ·skip
      refine tf U (ebs (xs:=[.tmp 23]) (vals:=[.agg (outC 1 none 0 0).toArray]) (vs:=(outC 1 none 0 0)) U U U U tu45 ts41 ty41 U (by simp [agg_cells,outC]) (by simp [agg_cells]) H ?_)
      clear H;intro gp W H
      refine ⟨_,fun _ h=>h,H.sb,?_⟩
      refine t_each ?_ ?_
      ·skip
       refine tf U (ebs (xs:=[.tmp 21]) (vals:=[.agg (inC Ex.pt (some ⟨gw,0,none⟩) 2 2).toArray]) (vs:=(inC Ex.pt (some ⟨gw,0,none⟩) 2 2)) U U U U tu44 ts71 ty71 U (by simp [agg_cells,len_in Ex.len_pt]) (by simp [agg_cells]) H ?_)
       clear H;intro gj W H
       refine ⟨_,fun _ h=>h,H.sb,?_⟩
       refine tR U (fun W H=>b_xtx U U U) (tf U (eal [.slice none 0 0,.slice none 0 0,.int .i64 0] tz47 H ?_))
       clear H;intro gu W H
       refine ⟨_,fun _ h=>h,H.sb,?_⟩
       refine tf U (esk (txC (some ⟨gj,0,none⟩) 1 1 (some ⟨gp,0,none⟩) 1 1 0) U U U ts47 U U H (by decide) U ?_)
       clear H;intro W H
       refine ⟨_,fun _ h=>h,H.sb,?_⟩
       refine t_nil (kn (n_then ?_))
       refine ⟨_,_,U,?_,?_,⟨gu,gj,gp,gw,gm,U,H.pm⟩⟩
       ·with_reducible repeat first|exact .refl|refine .f ?_ ?_ ?_;kernel_rfl;kernel_rfl|refine .u ?_ ?_;kernel_rfl
       ·refine ⟨?_,trivial⟩
        ·exact U
      refine t_each ?_ ?_
      ·skip
       refine tf U (eal [.slice none 0 0,.slice none 0 0,.int .i64 0] tz47 H ?_)
       clear H;intro gu W H
       refine ⟨_,fun _ h=>h,H.sb,?_⟩
       refine tf U (ebs (xs:=[.tmp 21]) (vals:=[.agg (inC Ex.pt (some ⟨gw,0,none⟩) 2 2).toArray]) (vs:=(inC Ex.pt (some ⟨gw,0,none⟩) 2 2)) U U U U tu44 ts71 ty71 U (by simp [agg_cells,len_in Ex.len_pt]) (by simp [agg_cells]) H ?_)
       clear H;intro gj W H
       refine ⟨_,fun _ h=>h,H.sb,?_⟩
       refine tR U (fun W H=>b_xtx U U U) (tf U (esk (txC (some ⟨gj,0,none⟩) 1 1 (some ⟨gp,0,none⟩) 1 1 0) U U U ts47 U U H (by decide) U ?_))
       clear H;intro W H
       refine ⟨_,fun _ h=>h,H.sb,?_⟩
       refine t_nil (kn (n_then ?_))
       refine ⟨_,_,U,?_,?_,⟨gu,gj,gp,gw,gm,U,H.pm⟩⟩
       ·with_reducible repeat first|exact .refl|refine .f ?_ ?_ ?_;kernel_rfl;kernel_rfl|refine .u ?_ ?_;kernel_rfl
       ·refine ⟨?_,trivial⟩
        ·exact U
      exact t_none
     refine t_each ?_ ?_
     ·skip
      refine tf U (eal [.slice none 0 0,.slice none 0 0,.int .i64 0] tz47 H ?_)
      clear H;intro gu W H
      refine ⟨_,fun _ h=>h,H.sb,?_⟩
      refine t_each ?_ ?_
      ·skip
       refine tf U (ebs (xs:=[.tmp 21]) (vals:=[.agg (inC Ex.pt (some ⟨gw,0,none⟩) 2 2).toArray]) (vs:=(inC Ex.pt (some ⟨gw,0,none⟩) 2 2)) U U U U tu44 ts71 ty71 U (by simp [agg_cells,len_in Ex.len_pt]) (by simp [agg_cells]) H ?_)
       clear H;intro gj W H
       refine ⟨_,fun _ h=>h,H.sb,?_⟩
       refine tf U (ebs (xs:=[.tmp 23]) (vals:=[.agg (outC 1 none 0 0).toArray]) (vs:=(outC 1 none 0 0)) U U U U tu45 ts41 ty41 U (by simp [agg_cells,outC]) (by simp [agg_cells]) H ?_)
       clear H;intro gp W H
       refine ⟨_,fun _ h=>h,H.sb,?_⟩
       refine tR U (fun W H=>b_xtx U U U) (tf U (esk (txC (some ⟨gj,0,none⟩) 1 1 (some ⟨gp,0,none⟩) 1 1 0) U U U ts47 U U H (by decide) U ?_))
       clear H;intro W H
       refine ⟨_,fun _ h=>h,H.sb,?_⟩
       refine t_nil (kn (n_then ?_))
       refine ⟨_,_,U,?_,?_,⟨gu,gj,gp,gw,gm,U,H.pm⟩⟩
       ·with_reducible repeat first|exact .refl|refine .f ?_ ?_ ?_;kernel_rfl;kernel_rfl|refine .u ?_ ?_;kernel_rfl
       ·refine ⟨?_,trivial⟩
        ·exact U
      refine t_each ?_ ?_
      ·skip
       refine tf U (ebs (xs:=[.tmp 23]) (vals:=[.agg (outC 1 none 0 0).toArray]) (vs:=(outC 1 none 0 0)) U U U U tu45 ts41 ty41 U (by simp [agg_cells,outC]) (by simp [agg_cells]) H ?_)
       clear H;intro gp W H
       refine ⟨_,fun _ h=>h,H.sb,?_⟩
       refine tf U (ebs (xs:=[.tmp 21]) (vals:=[.agg (inC Ex.pt (some ⟨gw,0,none⟩) 2 2).toArray]) (vs:=(inC Ex.pt (some ⟨gw,0,none⟩) 2 2)) U U U U tu44 ts71 ty71 U (by simp [agg_cells,len_in Ex.len_pt]) (by simp [agg_cells]) H ?_)
       clear H;intro gj W H
       refine ⟨_,fun _ h=>h,H.sb,?_⟩
       refine tR U (fun W H=>b_xtx U U U) (tf U (esk (txC (some ⟨gj,0,none⟩) 1 1 (some ⟨gp,0,none⟩) 1 1 0) U U U ts47 U U H (by decide) U ?_))
       clear H;intro W H
       refine ⟨_,fun _ h=>h,H.sb,?_⟩
       refine t_nil (kn (n_then ?_))
       refine ⟨_,_,U,?_,?_,⟨gu,gj,gp,gw,gm,U,H.pm⟩⟩
       ·with_reducible repeat first|exact .refl|refine .f ?_ ?_ ?_;kernel_rfl;kernel_rfl|refine .u ?_ ?_;kernel_rfl
       ·refine ⟨?_,trivial⟩
        ·exact U
      exact t_none
     exact t_none
    refine t_each ?_ ?_
    ·skip
     refine tf U (ebs (xs:=[.tmp 23]) (vals:=[.agg (outC 1 none 0 0).toArray]) (vs:=(outC 1 none 0 0)) U U U U tu45 ts41 ty41 U (by simp [agg_cells,outC]) (by simp [agg_cells]) H ?_)
     clear H;intro gp W H
     refine ⟨_,fun _ h=>h,H.sb,?_⟩
     refine t_each ?_ ?_
     ·skip
      refine tf U (eI Tryz.func25 U U (idTP _ (Ex.rt (S:=fun _=>True) (H.blk (g:=gi)) (H.blk (g:=go)) (H.blk (g:=gs)) trivial trivial trivial) (H.gat hG) (H.gl hB)) H ?_)
      clear H;intro W H
      refine ⟨_,fun _ h=>h,H.sb,?_⟩
      refine tR U (fun W H=>b_xpt Tx.len_dig U U) (tR U (fun W H=>b_xin U U U) (t_each ?_ ?_))
      ·skip
       refine tf U (ebs (xs:=[.tmp 21]) (vals:=[.agg (inC Ex.pt (some ⟨gw,0,none⟩) 2 2).toArray]) (vs:=(inC Ex.pt (some ⟨gw,0,none⟩) 2 2)) U U U U tu44 ts71 ty71 U (by simp [agg_cells,len_in Ex.len_pt]) (by simp [agg_cells]) H ?_)
       clear H;intro gj W H
       refine ⟨_,fun _ h=>h,H.sb,?_⟩
       refine tR U (fun W H=>b_xtx U U U) (tf U (eal [.slice none 0 0,.slice none 0 0,.int .i64 0] tz47 H ?_))
       clear H;intro gu W H
       refine ⟨_,fun _ h=>h,H.sb,?_⟩
       refine tf U (esk (txC (some ⟨gj,0,none⟩) 1 1 (some ⟨gp,0,none⟩) 1 1 0) U U U ts47 U U H (by decide) U ?_)
       clear H;intro W H
       refine ⟨_,fun _ h=>h,H.sb,?_⟩
       refine t_nil (kn (n_then ?_))
       refine ⟨_,_,U,?_,?_,⟨gu,gj,gp,gw,gm,U,H.pm⟩⟩
       ·with_reducible repeat first|exact .refl|refine .f ?_ ?_ ?_;kernel_rfl;kernel_rfl|refine .u ?_ ?_;kernel_rfl
       ·refine ⟨?_,trivial⟩
        ·exact U
      refine t_each ?_ ?_
      ·skip
       refine tf U (eal [.slice none 0 0,.slice none 0 0,.int .i64 0] tz47 H ?_)
       clear H;intro gu W H
       refine ⟨_,fun _ h=>h,H.sb,?_⟩
       refine tf U (ebs (xs:=[.tmp 21]) (vals:=[.agg (inC Ex.pt (some ⟨gw,0,none⟩) 2 2).toArray]) (vs:=(inC Ex.pt (some ⟨gw,0,none⟩) 2 2)) U U U U tu44 ts71 ty71 U (by simp [agg_cells,len_in Ex.len_pt]) (by simp [agg_cells]) H ?_)
       clear H;intro gj W H
       refine ⟨_,fun _ h=>h,H.sb,?_⟩
       refine tR U (fun W H=>b_xtx U U U) (tf U (esk (txC (some ⟨gj,0,none⟩) 1 1 (some ⟨gp,0,none⟩) 1 1 0) U U U ts47 U U H (by decide) U ?_))
       clear H;intro W H
       refine ⟨_,fun _ h=>h,H.sb,?_⟩
       refine t_nil (kn (n_then ?_))
       refine ⟨_,_,U,?_,?_,⟨gu,gj,gp,gw,gm,U,H.pm⟩⟩
       ·with_reducible repeat first|exact .refl|refine .f ?_ ?_ ?_;kernel_rfl;kernel_rfl|refine .u ?_ ?_;kernel_rfl
       ·refine ⟨?_,trivial⟩
        ·exact U
      exact t_none
     refine t_each ?_ ?_
     ·skip
      refine tf U (eal [.slice none 0 0,.slice none 0 0,.int .i64 0] tz47 H ?_)
      clear H;intro gu W H
      refine ⟨_,fun _ h=>h,H.sb,?_⟩
      refine tf U (eI Tryz.func25 U U (idTP _ (Ex.rt (S:=fun _=>True) (H.blk (g:=gi)) (H.blk (g:=go)) (H.blk (g:=gs)) trivial trivial trivial) (H.gat hG) (H.gl hB)) H ?_)
      clear H;intro W H
      refine ⟨_,fun _ h=>h,H.sb,?_⟩
      refine tR U (fun W H=>b_xpt Tx.len_dig U U) (tR U (fun W H=>b_xin U U U) (tf U (ebs (xs:=[.tmp 21]) (vals:=[.agg (inC Ex.pt (some ⟨gw,0,none⟩) 2 2).toArray]) (vs:=(inC Ex.pt (some ⟨gw,0,none⟩) 2 2)) U U U U tu44 ts71 ty71 U (by simp [agg_cells,len_in Ex.len_pt]) (by simp [agg_cells]) H ?_)))
      clear H;intro gj W H
      refine ⟨_,fun _ h=>h,H.sb,?_⟩
      refine tR U (fun W H=>b_xtx U U U) (tf U (esk (txC (some ⟨gj,0,none⟩) 1 1 (some ⟨gp,0,none⟩) 1 1 0) U U U ts47 U U H (by decide) U ?_))
      clear H;intro W H
      refine ⟨_,fun _ h=>h,H.sb,?_⟩
      refine t_nil (kn (n_then ?_))
      refine ⟨_,_,U,?_,?_,⟨gu,gj,gp,gw,gm,U,H.pm⟩⟩
      ·with_reducible repeat first|exact .refl|refine .f ?_ ?_ ?_;kernel_rfl;kernel_rfl|refine .u ?_ ?_;kernel_rfl
      ·refine ⟨?_,trivial⟩
       ·exact U
     exact t_none
    refine t_each ?_ ?_
    ·skip
     refine tf U (eal [.slice none 0 0,.slice none 0 0,.int .i64 0] tz47 H ?_)
     clear H;intro gu W H
     refine ⟨_,fun _ h=>h,H.sb,?_⟩
     refine t_each ?_ ?_
     ·skip
      refine tf U (eI Tryz.func25 U U (idTP _ (Ex.rt (S:=fun _=>True) (H.blk (g:=gi)) (H.blk (g:=go)) (H.blk (g:=gs)) trivial trivial trivial) (H.gat hG) (H.gl hB)) H ?_)
      clear H;intro W H
      refine ⟨_,fun _ h=>h,H.sb,?_⟩
      refine tR U (fun W H=>b_xpt Tx.len_dig U U) (tR U (fun W H=>b_xin U U U) (t_each ?_ ?_))
      ·skip
       refine tf U (ebs (xs:=[.tmp 21]) (vals:=[.agg (inC Ex.pt (some ⟨gw,0,none⟩) 2 2).toArray]) (vs:=(inC Ex.pt (some ⟨gw,0,none⟩) 2 2)) U U U U tu44 ts71 ty71 U (by simp [agg_cells,len_in Ex.len_pt]) (by simp [agg_cells]) H ?_)
       clear H;intro gj W H
       refine ⟨_,fun _ h=>h,H.sb,?_⟩
       refine tf U (ebs (xs:=[.tmp 23]) (vals:=[.agg (outC 1 none 0 0).toArray]) (vs:=(outC 1 none 0 0)) U U U U tu45 ts41 ty41 U (by simp [agg_cells,outC]) (by simp [agg_cells]) H ?_)
       clear H;intro gp W H
       refine ⟨_,fun _ h=>h,H.sb,?_⟩
       refine tR U (fun W H=>b_xtx U U U) (tf U (esk (txC (some ⟨gj,0,none⟩) 1 1 (some ⟨gp,0,none⟩) 1 1 0) U U U ts47 U U H (by decide) U ?_))
       clear H;intro W H
       refine ⟨_,fun _ h=>h,H.sb,?_⟩
       refine t_nil (kn (n_then ?_))
       refine ⟨_,_,U,?_,?_,⟨gu,gj,gp,gw,gm,U,H.pm⟩⟩
       ·with_reducible repeat first|exact .refl|refine .f ?_ ?_ ?_;kernel_rfl;kernel_rfl|refine .u ?_ ?_;kernel_rfl
       ·refine ⟨?_,trivial⟩
        ·exact U
      refine t_each ?_ ?_
      ·skip
       refine tf U (ebs (xs:=[.tmp 23]) (vals:=[.agg (outC 1 none 0 0).toArray]) (vs:=(outC 1 none 0 0)) U U U U tu45 ts41 ty41 U (by simp [agg_cells,outC]) (by simp [agg_cells]) H ?_)
       clear H;intro gp W H
       refine ⟨_,fun _ h=>h,H.sb,?_⟩
       refine tf U (ebs (xs:=[.tmp 21]) (vals:=[.agg (inC Ex.pt (some ⟨gw,0,none⟩) 2 2).toArray]) (vs:=(inC Ex.pt (some ⟨gw,0,none⟩) 2 2)) U U U U tu44 ts71 ty71 U (by simp [agg_cells,len_in Ex.len_pt]) (by simp [agg_cells]) H ?_)
       clear H;intro gj W H
       refine ⟨_,fun _ h=>h,H.sb,?_⟩
       refine tR U (fun W H=>b_xtx U U U) (tf U (esk (txC (some ⟨gj,0,none⟩) 1 1 (some ⟨gp,0,none⟩) 1 1 0) U U U ts47 U U H (by decide) U ?_))
       clear H;intro W H
       refine ⟨_,fun _ h=>h,H.sb,?_⟩
       refine t_nil (kn (n_then ?_))
       refine ⟨_,_,U,?_,?_,⟨gu,gj,gp,gw,gm,U,H.pm⟩⟩
       ·with_reducible repeat first|exact .refl|refine .f ?_ ?_ ?_;kernel_rfl;kernel_rfl|refine .u ?_ ?_;kernel_rfl
       ·refine ⟨?_,trivial⟩
        ·exact U
      exact t_none
     refine t_each ?_ ?_
     ·skip
      refine tf U (ebs (xs:=[.tmp 23]) (vals:=[.agg (outC 1 none 0 0).toArray]) (vs:=(outC 1 none 0 0)) U U U U tu45 ts41 ty41 U (by simp [agg_cells,outC]) (by simp [agg_cells]) H ?_)
      clear H;intro gp W H
      refine ⟨_,fun _ h=>h,H.sb,?_⟩
      refine tf U (eI Tryz.func25 U U (idTP _ (Ex.rt (S:=fun _=>True) (H.blk (g:=gi)) (H.blk (g:=go)) (H.blk (g:=gs)) trivial trivial trivial) (H.gat hG) (H.gl hB)) H ?_)
      clear H;intro W H
      refine ⟨_,fun _ h=>h,H.sb,?_⟩
      refine tR U (fun W H=>b_xpt Tx.len_dig U U) (tR U (fun W H=>b_xin U U U) (tf U (ebs (xs:=[.tmp 21]) (vals:=[.agg (inC Ex.pt (some ⟨gw,0,none⟩) 2 2).toArray]) (vs:=(inC Ex.pt (some ⟨gw,0,none⟩) 2 2)) U U U U tu44 ts71 ty71 U (by simp [agg_cells,len_in Ex.len_pt]) (by simp [agg_cells]) H ?_)))
      clear H;intro gj W H
      refine ⟨_,fun _ h=>h,H.sb,?_⟩
      refine tR U (fun W H=>b_xtx U U U) (tf U (esk (txC (some ⟨gj,0,none⟩) 1 1 (some ⟨gp,0,none⟩) 1 1 0) U U U ts47 U U H (by decide) U ?_))
      clear H;intro W H
      refine ⟨_,fun _ h=>h,H.sb,?_⟩
      refine t_nil (kn (n_then ?_))
      refine ⟨_,_,U,?_,?_,⟨gu,gj,gp,gw,gm,U,H.pm⟩⟩
      ·with_reducible repeat first|exact .refl|refine .f ?_ ?_ ?_;kernel_rfl;kernel_rfl|refine .u ?_ ?_;kernel_rfl
      ·refine ⟨?_,trivial⟩
       ·exact U
     exact t_none
    exact t_none
   refine t_each ?_ ?_
   ·skip
    refine tf U (ebs (xs:=[.tmp 23]) (vals:=[.agg (outC 1 none 0 0).toArray]) (vs:=(outC 1 none 0 0)) U U U U tu45 ts41 ty41 U (by simp [agg_cells,outC]) (by simp [agg_cells]) H ?_)
    clear H;intro gp W H
    refine ⟨_,fun _ h=>h,H.sb,?_⟩
    refine t_each ?_ ?_
    ·skip
     refine tf U (eI Tryz.func25 U U (idTP _ (Ex.rt (S:=fun _=>True) (H.blk (g:=gi)) (H.blk (g:=go)) (H.blk (g:=gs)) trivial trivial trivial) (H.gat hG) (H.gl hB)) H ?_)
     clear H;intro W H
     refine ⟨_,fun _ h=>h,H.sb,?_⟩
     refine tR U (fun W H=>b_xpt Tx.len_dig U U) (t_each ?_ ?_)
     ·skip
      refine tf U (ebs (xs:=[.tmp 18,.tmp 19]) (vals:=[.slice (some ⟨gm,0,none⟩) 16 16,.slice (some ⟨gx,0,none⟩) 32 32]) (vs:=[.slice (some ⟨gm,0,none⟩) 16 16,.slice (some ⟨gx,0,none⟩) 32 32]) U U U U tu66 ts23 ty23 U U U H ?_)
      clear H;intro gw W H
      refine ⟨_,fun _ h=>h,H.sb,?_⟩
      refine tR U (fun W H=>b_xin U U U) (t_each ?_ ?_)
      ·skip
       refine tf U (ebs (xs:=[.tmp 21]) (vals:=[.agg (inC Ex.pt (some ⟨gw,0,none⟩) 2 2).toArray]) (vs:=(inC Ex.pt (some ⟨gw,0,none⟩) 2 2)) U U U U tu44 ts71 ty71 U (by simp [agg_cells,len_in Ex.len_pt]) (by simp [agg_cells]) H ?_)
       clear H;intro gj W H
       refine ⟨_,fun _ h=>h,H.sb,?_⟩
       refine tR U (fun W H=>b_xtx U U U) (tf U (eal [.slice none 0 0,.slice none 0 0,.int .i64 0] tz47 H ?_))
       clear H;intro gu W H
       refine ⟨_,fun _ h=>h,H.sb,?_⟩
       refine tf U (esk (txC (some ⟨gj,0,none⟩) 1 1 (some ⟨gp,0,none⟩) 1 1 0) U U U ts47 U U H (by decide) U ?_)
       clear H;intro W H
       refine ⟨_,fun _ h=>h,H.sb,?_⟩
       refine t_nil (kn (n_then ?_))
       refine ⟨_,_,U,?_,?_,⟨gu,gj,gp,gw,gm,U,H.pm⟩⟩
       ·with_reducible repeat first|exact .refl|refine .f ?_ ?_ ?_;kernel_rfl;kernel_rfl|refine .u ?_ ?_;kernel_rfl
       ·refine ⟨?_,trivial⟩
        ·exact U
      refine t_each ?_ ?_
      ·skip
       refine tf U (eal [.slice none 0 0,.slice none 0 0,.int .i64 0] tz47 H ?_)
       clear H;intro gu W H
       refine ⟨_,fun _ h=>h,H.sb,?_⟩
       refine tf U (ebs (xs:=[.tmp 21]) (vals:=[.agg (inC Ex.pt (some ⟨gw,0,none⟩) 2 2).toArray]) (vs:=(inC Ex.pt (some ⟨gw,0,none⟩) 2 2)) U U U U tu44 ts71 ty71 U (by simp [agg_cells,len_in Ex.len_pt]) (by simp [agg_cells]) H ?_)
       clear H;intro gj W H
       refine ⟨_,fun _ h=>h,H.sb,?_⟩
       refine tR U (fun W H=>b_xtx U U U) (tf U (esk (txC (some ⟨gj,0,none⟩) 1 1 (some ⟨gp,0,none⟩) 1 1 0) U U U ts47 U U H (by decide) U ?_))
       clear H;intro W H
       refine ⟨_,fun _ h=>h,H.sb,?_⟩
       refine t_nil (kn (n_then ?_))
       refine ⟨_,_,U,?_,?_,⟨gu,gj,gp,gw,gm,U,H.pm⟩⟩
       ·with_reducible repeat first|exact .refl|refine .f ?_ ?_ ?_;kernel_rfl;kernel_rfl|refine .u ?_ ?_;kernel_rfl
       ·refine ⟨?_,trivial⟩
        ·exact U
      exact t_none
     refine t_each ?_ ?_
     ·skip
      refine tf U (eal [.slice none 0 0,.slice none 0 0,.int .i64 0] tz47 H ?_)
      clear H;intro gu W H
      refine ⟨_,fun _ h=>h,H.sb,?_⟩
      refine tf U (ebs (xs:=[.tmp 18,.tmp 19]) (vals:=[.slice (some ⟨gm,0,none⟩) 16 16,.slice (some ⟨gx,0,none⟩) 32 32]) (vs:=[.slice (some ⟨gm,0,none⟩) 16 16,.slice (some ⟨gx,0,none⟩) 32 32]) U U U U tu66 ts23 ty23 U U U H ?_)
      clear H;intro gw W H
      refine ⟨_,fun _ h=>h,H.sb,?_⟩
      refine tR U (fun W H=>b_xin U U U) (tf U (ebs (xs:=[.tmp 21]) (vals:=[.agg (inC Ex.pt (some ⟨gw,0,none⟩) 2 2).toArray]) (vs:=(inC Ex.pt (some ⟨gw,0,none⟩) 2 2)) U U U U tu44 ts71 ty71 U (by simp [agg_cells,len_in Ex.len_pt]) (by simp [agg_cells]) H ?_))
      clear H;intro gj W H
      refine ⟨_,fun _ h=>h,H.sb,?_⟩
      refine tR U (fun W H=>b_xtx U U U) (tf U (esk (txC (some ⟨gj,0,none⟩) 1 1 (some ⟨gp,0,none⟩) 1 1 0) U U U ts47 U U H (by decide) U ?_))
      clear H;intro W H
      refine ⟨_,fun _ h=>h,H.sb,?_⟩
      refine t_nil (kn (n_then ?_))
      refine ⟨_,_,U,?_,?_,⟨gu,gj,gp,gw,gm,U,H.pm⟩⟩
      ·with_reducible repeat first|exact .refl|refine .f ?_ ?_ ?_;kernel_rfl;kernel_rfl|refine .u ?_ ?_;kernel_rfl
      ·refine ⟨?_,trivial⟩
       ·exact U
     exact t_none
    refine t_each ?_ ?_
    ·skip
     refine tf U (ebs (xs:=[.tmp 18,.tmp 19]) (vals:=[.slice (some ⟨gm,0,none⟩) 16 16,.slice (some ⟨gx,0,none⟩) 32 32]) (vs:=[.slice (some ⟨gm,0,none⟩) 16 16,.slice (some ⟨gx,0,none⟩) 32 32]) U U U U tu66 ts23 ty23 U U U H ?_)
     clear H;intro gw W H
     refine ⟨_,fun _ h=>h,H.sb,?_⟩
     refine t_each ?_ ?_
     ·skip
      refine tf U (eI Tryz.func25 U U (idTP _ (Ex.rt (S:=fun _=>True) (H.blk (g:=gi)) (H.blk (g:=go)) (H.blk (g:=gs)) trivial trivial trivial) (H.gat hG) (H.gl hB)) H ?_)
      clear H;intro W H
      refine ⟨_,fun _ h=>h,H.sb,?_⟩
      refine tR U (fun W H=>b_xpt Tx.len_dig U U) (tR U (fun W H=>b_xin U U U) (t_each ?_ ?_))
      ·skip
       refine tf U (ebs (xs:=[.tmp 21]) (vals:=[.agg (inC Ex.pt (some ⟨gw,0,none⟩) 2 2).toArray]) (vs:=(inC Ex.pt (some ⟨gw,0,none⟩) 2 2)) U U U U tu44 ts71 ty71 U (by simp [agg_cells,len_in Ex.len_pt]) (by simp [agg_cells]) H ?_)
       clear H;intro gj W H
       refine ⟨_,fun _ h=>h,H.sb,?_⟩
       refine tR U (fun W H=>b_xtx U U U) (tf U (eal [.slice none 0 0,.slice none 0 0,.int .i64 0] tz47 H ?_))
       clear H;intro gu W H
       refine ⟨_,fun _ h=>h,H.sb,?_⟩
       refine tf U (esk (txC (some ⟨gj,0,none⟩) 1 1 (some ⟨gp,0,none⟩) 1 1 0) U U U ts47 U U H (by decide) U ?_)
       clear H;intro W H
       refine ⟨_,fun _ h=>h,H.sb,?_⟩
       refine t_nil (kn (n_then ?_))
       refine ⟨_,_,U,?_,?_,⟨gu,gj,gp,gw,gm,U,H.pm⟩⟩
       ·with_reducible repeat first|exact .refl|refine .f ?_ ?_ ?_;kernel_rfl;kernel_rfl|refine .u ?_ ?_;kernel_rfl
       ·refine ⟨?_,trivial⟩
        ·exact U
      refine t_each ?_ ?_
      ·skip
       refine tf U (eal [.slice none 0 0,.slice none 0 0,.int .i64 0] tz47 H ?_)
       clear H;intro gu W H
       refine ⟨_,fun _ h=>h,H.sb,?_⟩
       refine tf U (ebs (xs:=[.tmp 21]) (vals:=[.agg (inC Ex.pt (some ⟨gw,0,none⟩) 2 2).toArray]) (vs:=(inC Ex.pt (some ⟨gw,0,none⟩) 2 2)) U U U U tu44 ts71 ty71 U (by simp [agg_cells,len_in Ex.len_pt]) (by simp [agg_cells]) H ?_)
       clear H;intro gj W H
       refine ⟨_,fun _ h=>h,H.sb,?_⟩
       refine tR U (fun W H=>b_xtx U U U) (tf U (esk (txC (some ⟨gj,0,none⟩) 1 1 (some ⟨gp,0,none⟩) 1 1 0) U U U ts47 U U H (by decide) U ?_))
       clear H;intro W H
       refine ⟨_,fun _ h=>h,H.sb,?_⟩
       refine t_nil (kn (n_then ?_))
       refine ⟨_,_,U,?_,?_,⟨gu,gj,gp,gw,gm,U,H.pm⟩⟩
       ·with_reducible repeat first|exact .refl|refine .f ?_ ?_ ?_;kernel_rfl;kernel_rfl|refine .u ?_ ?_;kernel_rfl
       ·refine ⟨?_,trivial⟩
        ·exact U
      exact t_none
     refine t_each ?_ ?_
     ·skip
      refine tf U (eal [.slice none 0 0,.slice none 0 0,.int .i64 0] tz47 H ?_)
      clear H;intro gu W H
      refine ⟨_,fun _ h=>h,H.sb,?_⟩
      refine tf U (eI Tryz.func25 U U (idTP _ (Ex.rt (S:=fun _=>True) (H.blk (g:=gi)) (H.blk (g:=go)) (H.blk (g:=gs)) trivial trivial trivial) (H.gat hG) (H.gl hB)) H ?_)
      clear H;intro W H
      refine ⟨_,fun _ h=>h,H.sb,?_⟩
      refine tR U (fun W H=>b_xpt Tx.len_dig U U) (tR U (fun W H=>b_xin U U U) (tf U (ebs (xs:=[.tmp 21]) (vals:=[.agg (inC Ex.pt (some ⟨gw,0,none⟩) 2 2).toArray]) (vs:=(inC Ex.pt (some ⟨gw,0,none⟩) 2 2)) U U U U tu44 ts71 ty71 U (by simp [agg_cells,len_in Ex.len_pt]) (by simp [agg_cells]) H ?_)))
      clear H;intro gj W H
      refine ⟨_,fun _ h=>h,H.sb,?_⟩
      refine tR U (fun W H=>b_xtx U U U) (tf U (esk (txC (some ⟨gj,0,none⟩) 1 1 (some ⟨gp,0,none⟩) 1 1 0) U U U ts47 U U H (by decide) U ?_))
      clear H;intro W H
      refine ⟨_,fun _ h=>h,H.sb,?_⟩
      refine t_nil (kn (n_then ?_))
      refine ⟨_,_,U,?_,?_,⟨gu,gj,gp,gw,gm,U,H.pm⟩⟩
      ·with_reducible repeat first|exact .refl|refine .f ?_ ?_ ?_;kernel_rfl;kernel_rfl|refine .u ?_ ?_;kernel_rfl
      ·refine ⟨?_,trivial⟩
       ·exact U
     exact t_none
    refine t_each ?_ ?_
    ·skip
     refine tf U (eal [.slice none 0 0,.slice none 0 0,.int .i64 0] tz47 H ?_)
     clear H;intro gu W H
     refine ⟨_,fun _ h=>h,H.sb,?_⟩
     refine t_each ?_ ?_
     ·skip
      refine tf U (eI Tryz.func25 U U (idTP _ (Ex.rt (S:=fun _=>True) (H.blk (g:=gi)) (H.blk (g:=go)) (H.blk (g:=gs)) trivial trivial trivial) (H.gat hG) (H.gl hB)) H ?_)
      clear H;intro W H
      refine ⟨_,fun _ h=>h,H.sb,?_⟩
      refine tR U (fun W H=>b_xpt Tx.len_dig U U) (tf U (ebs (xs:=[.tmp 18,.tmp 19]) (vals:=[.slice (some ⟨gm,0,none⟩) 16 16,.slice (some ⟨gx,0,none⟩) 32 32]) (vs:=[.slice (some ⟨gm,0,none⟩) 16 16,.slice (some ⟨gx,0,none⟩) 32 32]) U U U U tu66 ts23 ty23 U U U H ?_))
      clear H;intro gw W H
      refine ⟨_,fun _ h=>h,H.sb,?_⟩
      refine tR U (fun W H=>b_xin U U U) (tf U (ebs (xs:=[.tmp 21]) (vals:=[.agg (inC Ex.pt (some ⟨gw,0,none⟩) 2 2).toArray]) (vs:=(inC Ex.pt (some ⟨gw,0,none⟩) 2 2)) U U U U tu44 ts71 ty71 U (by simp [agg_cells,len_in Ex.len_pt]) (by simp [agg_cells]) H ?_))
      clear H;intro gj W H
      refine ⟨_,fun _ h=>h,H.sb,?_⟩
      refine tR U (fun W H=>b_xtx U U U) (tf U (esk (txC (some ⟨gj,0,none⟩) 1 1 (some ⟨gp,0,none⟩) 1 1 0) U U U ts47 U U H (by decide) U ?_))
      clear H;intro W H
      refine ⟨_,fun _ h=>h,H.sb,?_⟩
      refine t_nil (kn (n_then ?_))
      refine ⟨_,_,U,?_,?_,⟨gu,gj,gp,gw,gm,U,H.pm⟩⟩
      ·with_reducible repeat first|exact .refl|refine .f ?_ ?_ ?_;kernel_rfl;kernel_rfl|refine .u ?_ ?_;kernel_rfl
      ·refine ⟨?_,trivial⟩
       ·exact U
     refine t_each ?_ ?_
     ·skip
      refine tf U (ebs (xs:=[.tmp 18,.tmp 19]) (vals:=[.slice (some ⟨gm,0,none⟩) 16 16,.slice (some ⟨gx,0,none⟩) 32 32]) (vs:=[.slice (some ⟨gm,0,none⟩) 16 16,.slice (some ⟨gx,0,none⟩) 32 32]) U U U U tu66 ts23 ty23 U U U H ?_)
      clear H;intro gw W H
      refine ⟨_,fun _ h=>h,H.sb,?_⟩
      refine tf U (eI Tryz.func25 U U (idTP _ (Ex.rt (S:=fun _=>True) (H.blk (g:=gi)) (H.blk (g:=go)) (H.blk (g:=gs)) trivial trivial trivial) (H.gat hG) (H.gl hB)) H ?_)
      clear H;intro W H
      refine ⟨_,fun _ h=>h,H.sb,?_⟩
      refine tR U (fun W H=>b_xpt Tx.len_dig U U) (tR U (fun W H=>b_xin U U U) (tf U (ebs (xs:=[.tmp 21]) (vals:=[.agg (inC Ex.pt (some ⟨gw,0,none⟩) 2 2).toArray]) (vs:=(inC Ex.pt (some ⟨gw,0,none⟩) 2 2)) U U U U tu44 ts71 ty71 U (by simp [agg_cells,len_in Ex.len_pt]) (by simp [agg_cells]) H ?_)))
      clear H;intro gj W H
      refine ⟨_,fun _ h=>h,H.sb,?_⟩
      refine tR U (fun W H=>b_xtx U U U) (tf U (esk (txC (some ⟨gj,0,none⟩) 1 1 (some ⟨gp,0,none⟩) 1 1 0) U U U ts47 U U H (by decide) U ?_))
      clear H;intro W H
      refine ⟨_,fun _ h=>h,H.sb,?_⟩
      refine t_nil (kn (n_then ?_))
      refine ⟨_,_,U,?_,?_,⟨gu,gj,gp,gw,gm,U,H.pm⟩⟩
      ·with_reducible repeat first|exact .refl|refine .f ?_ ?_ ?_;kernel_rfl;kernel_rfl|refine .u ?_ ?_;kernel_rfl
      ·refine ⟨?_,trivial⟩
       ·exact U
     exact t_none
    exact t_none
   refine t_each ?_ ?_
   ·skip
    refine tf U (eal [.slice none 0 0,.slice none 0 0,.int .i64 0] tz47 H ?_)
    clear H;intro gu W H
    refine ⟨_,fun _ h=>h,H.sb,?_⟩
    refine t_each ?_ ?_
    ·skip
     refine tf U (eI Tryz.func25 U U (idTP _ (Ex.rt (S:=fun _=>True) (H.blk (g:=gi)) (H.blk (g:=go)) (H.blk (g:=gs)) trivial trivial trivial) (H.gat hG) (H.gl hB)) H ?_)
     clear H;intro W H
     refine ⟨_,fun _ h=>h,H.sb,?_⟩
     refine tR U (fun W H=>b_xpt Tx.len_dig U U) (t_each ?_ ?_)
     ·skip
      refine tf U (ebs (xs:=[.tmp 18,.tmp 19]) (vals:=[.slice (some ⟨gm,0,none⟩) 16 16,.slice (some ⟨gx,0,none⟩) 32 32]) (vs:=[.slice (some ⟨gm,0,none⟩) 16 16,.slice (some ⟨gx,0,none⟩) 32 32]) U U U U tu66 ts23 ty23 U U U H ?_)
      clear H;intro gw W H
      refine ⟨_,fun _ h=>h,H.sb,?_⟩
      refine tR U (fun W H=>b_xin U U U) (t_each ?_ ?_)
      ·skip
       refine tf U (ebs (xs:=[.tmp 21]) (vals:=[.agg (inC Ex.pt (some ⟨gw,0,none⟩) 2 2).toArray]) (vs:=(inC Ex.pt (some ⟨gw,0,none⟩) 2 2)) U U U U tu44 ts71 ty71 U (by simp [agg_cells,len_in Ex.len_pt]) (by simp [agg_cells]) H ?_)
       clear H;intro gj W H
       refine ⟨_,fun _ h=>h,H.sb,?_⟩
       refine tf U (ebs (xs:=[.tmp 23]) (vals:=[.agg (outC 1 none 0 0).toArray]) (vs:=(outC 1 none 0 0)) U U U U tu45 ts41 ty41 U (by simp [agg_cells,outC]) (by simp [agg_cells]) H ?_)
       clear H;intro gp W H
       refine ⟨_,fun _ h=>h,H.sb,?_⟩
       refine tR U (fun W H=>b_xtx U U U) (tf U (esk (txC (some ⟨gj,0,none⟩) 1 1 (some ⟨gp,0,none⟩) 1 1 0) U U U ts47 U U H (by decide) U ?_))
       clear H;intro W H
       refine ⟨_,fun _ h=>h,H.sb,?_⟩
       refine t_nil (kn (n_then ?_))
       refine ⟨_,_,U,?_,?_,⟨gu,gj,gp,gw,gm,U,H.pm⟩⟩
       ·with_reducible repeat first|exact .refl|refine .f ?_ ?_ ?_;kernel_rfl;kernel_rfl|refine .u ?_ ?_;kernel_rfl
       ·refine ⟨?_,trivial⟩
        ·exact U
      refine t_each ?_ ?_
      ·skip
       refine tf U (ebs (xs:=[.tmp 23]) (vals:=[.agg (outC 1 none 0 0).toArray]) (vs:=(outC 1 none 0 0)) U U U U tu45 ts41 ty41 U (by simp [agg_cells,outC]) (by simp [agg_cells]) H ?_)
       clear H;intro gp W H
       refine ⟨_,fun _ h=>h,H.sb,?_⟩
       refine tf U (ebs (xs:=[.tmp 21]) (vals:=[.agg (inC Ex.pt (some ⟨gw,0,none⟩) 2 2).toArray]) (vs:=(inC Ex.pt (some ⟨gw,0,none⟩) 2 2)) U U U U tu44 ts71 ty71 U (by simp [agg_cells,len_in Ex.len_pt]) (by simp [agg_cells]) H ?_)
       clear H;intro gj W H
       refine ⟨_,fun _ h=>h,H.sb,?_⟩
       refine tR U (fun W H=>b_xtx U U U) (tf U (esk (txC (some ⟨gj,0,none⟩) 1 1 (some ⟨gp,0,none⟩) 1 1 0) U U U ts47 U U H (by decide) U ?_))
       clear H;intro W H
       refine ⟨_,fun _ h=>h,H.sb,?_⟩
       refine t_nil (kn (n_then ?_))
       refine ⟨_,_,U,?_,?_,⟨gu,gj,gp,gw,gm,U,H.pm⟩⟩
       ·with_reducible repeat first|exact .refl|refine .f ?_ ?_ ?_;kernel_rfl;kernel_rfl|refine .u ?_ ?_;kernel_rfl
       ·refine ⟨?_,trivial⟩
        ·exact U
      exact t_none
     refine t_each ?_ ?_
     ·skip
      refine tf U (ebs (xs:=[.tmp 23]) (vals:=[.agg (outC 1 none 0 0).toArray]) (vs:=(outC 1 none 0 0)) U U U U tu45 ts41 ty41 U (by simp [agg_cells,outC]) (by simp [agg_cells]) H ?_)
      clear H;intro gp W H
      refine ⟨_,fun _ h=>h,H.sb,?_⟩
      refine tf U (ebs (xs:=[.tmp 18,.tmp 19]) (vals:=[.slice (some ⟨gm,0,none⟩) 16 16,.slice (some ⟨gx,0,none⟩) 32 32]) (vs:=[.slice (some ⟨gm,0,none⟩) 16 16,.slice (some ⟨gx,0,none⟩) 32 32]) U U U U tu66 ts23 ty23 U U U H ?_)
      clear H;intro gw W H
      refine ⟨_,fun _ h=>h,H.sb,?_⟩
      refine tR U (fun W H=>b_xin U U U) (tf U (ebs (xs:=[.tmp 21]) (vals:=[.agg (inC Ex.pt (some ⟨gw,0,none⟩) 2 2).toArray]) (vs:=(inC Ex.pt (some ⟨gw,0,none⟩) 2 2)) U U U U tu44 ts71 ty71 U (by simp [agg_cells,len_in Ex.len_pt]) (by simp [agg_cells]) H ?_))
      clear H;intro gj W H
      refine ⟨_,fun _ h=>h,H.sb,?_⟩
      refine tR U (fun W H=>b_xtx U U U) (tf U (esk (txC (some ⟨gj,0,none⟩) 1 1 (some ⟨gp,0,none⟩) 1 1 0) U U U ts47 U U H (by decide) U ?_))
      clear H;intro W H
      refine ⟨_,fun _ h=>h,H.sb,?_⟩
      refine t_nil (kn (n_then ?_))
      refine ⟨_,_,U,?_,?_,⟨gu,gj,gp,gw,gm,U,H.pm⟩⟩
      ·with_reducible repeat first|exact .refl|refine .f ?_ ?_ ?_;kernel_rfl;kernel_rfl|refine .u ?_ ?_;kernel_rfl
      ·refine ⟨?_,trivial⟩
       ·exact U
     exact t_none
    refine t_each ?_ ?_
    ·skip
     refine tf U (ebs (xs:=[.tmp 18,.tmp 19]) (vals:=[.slice (some ⟨gm,0,none⟩) 16 16,.slice (some ⟨gx,0,none⟩) 32 32]) (vs:=[.slice (some ⟨gm,0,none⟩) 16 16,.slice (some ⟨gx,0,none⟩) 32 32]) U U U U tu66 ts23 ty23 U U U H ?_)
     clear H;intro gw W H
     refine ⟨_,fun _ h=>h,H.sb,?_⟩
     refine t_each ?_ ?_
     ·skip
      refine tf U (eI Tryz.func25 U U (idTP _ (Ex.rt (S:=fun _=>True) (H.blk (g:=gi)) (H.blk (g:=go)) (H.blk (g:=gs)) trivial trivial trivial) (H.gat hG) (H.gl hB)) H ?_)
      clear H;intro W H
      refine ⟨_,fun _ h=>h,H.sb,?_⟩
      refine tR U (fun W H=>b_xpt Tx.len_dig U U) (tR U (fun W H=>b_xin U U U) (t_each ?_ ?_))
      ·skip
       refine tf U (ebs (xs:=[.tmp 21]) (vals:=[.agg (inC Ex.pt (some ⟨gw,0,none⟩) 2 2).toArray]) (vs:=(inC Ex.pt (some ⟨gw,0,none⟩) 2 2)) U U U U tu44 ts71 ty71 U (by simp [agg_cells,len_in Ex.len_pt]) (by simp [agg_cells]) H ?_)
       clear H;intro gj W H
       refine ⟨_,fun _ h=>h,H.sb,?_⟩
       refine tf U (ebs (xs:=[.tmp 23]) (vals:=[.agg (outC 1 none 0 0).toArray]) (vs:=(outC 1 none 0 0)) U U U U tu45 ts41 ty41 U (by simp [agg_cells,outC]) (by simp [agg_cells]) H ?_)
       clear H;intro gp W H
       refine ⟨_,fun _ h=>h,H.sb,?_⟩
       refine tR U (fun W H=>b_xtx U U U) (tf U (esk (txC (some ⟨gj,0,none⟩) 1 1 (some ⟨gp,0,none⟩) 1 1 0) U U U ts47 U U H (by decide) U ?_))
       clear H;intro W H
       refine ⟨_,fun _ h=>h,H.sb,?_⟩
       refine t_nil (kn (n_then ?_))
       refine ⟨_,_,U,?_,?_,⟨gu,gj,gp,gw,gm,U,H.pm⟩⟩
       ·with_reducible repeat first|exact .refl|refine .f ?_ ?_ ?_;kernel_rfl;kernel_rfl|refine .u ?_ ?_;kernel_rfl
       ·refine ⟨?_,trivial⟩
        ·exact U
      refine t_each ?_ ?_
      ·skip
       refine tf U (ebs (xs:=[.tmp 23]) (vals:=[.agg (outC 1 none 0 0).toArray]) (vs:=(outC 1 none 0 0)) U U U U tu45 ts41 ty41 U (by simp [agg_cells,outC]) (by simp [agg_cells]) H ?_)
       clear H;intro gp W H
       refine ⟨_,fun _ h=>h,H.sb,?_⟩
       refine tf U (ebs (xs:=[.tmp 21]) (vals:=[.agg (inC Ex.pt (some ⟨gw,0,none⟩) 2 2).toArray]) (vs:=(inC Ex.pt (some ⟨gw,0,none⟩) 2 2)) U U U U tu44 ts71 ty71 U (by simp [agg_cells,len_in Ex.len_pt]) (by simp [agg_cells]) H ?_)
       clear H;intro gj W H
       refine ⟨_,fun _ h=>h,H.sb,?_⟩
       refine tR U (fun W H=>b_xtx U U U) (tf U (esk (txC (some ⟨gj,0,none⟩) 1 1 (some ⟨gp,0,none⟩) 1 1 0) U U U ts47 U U H (by decide) U ?_))
       clear H;intro W H
       refine ⟨_,fun _ h=>h,H.sb,?_⟩
       refine t_nil (kn (n_then ?_))
       refine ⟨_,_,U,?_,?_,⟨gu,gj,gp,gw,gm,U,H.pm⟩⟩
       ·with_reducible repeat first|exact .refl|refine .f ?_ ?_ ?_;kernel_rfl;kernel_rfl|refine .u ?_ ?_;kernel_rfl
       ·refine ⟨?_,trivial⟩
        ·exact U
      exact t_none
     refine t_each ?_ ?_
     ·skip
      refine tf U (ebs (xs:=[.tmp 23]) (vals:=[.agg (outC 1 none 0 0).toArray]) (vs:=(outC 1 none 0 0)) U U U U tu45 ts41 ty41 U (by simp [agg_cells,outC]) (by simp [agg_cells]) H ?_)
      clear H;intro gp W H
      refine ⟨_,fun _ h=>h,H.sb,?_⟩
      refine tf U (eI Tryz.func25 U U (idTP _ (Ex.rt (S:=fun _=>True) (H.blk (g:=gi)) (H.blk (g:=go)) (H.blk (g:=gs)) trivial trivial trivial) (H.gat hG) (H.gl hB)) H ?_)
      clear H;intro W H
      refine ⟨_,fun _ h=>h,H.sb,?_⟩
      refine tR U (fun W H=>b_xpt Tx.len_dig U U) (tR U (fun W H=>b_xin U U U) (tf U (ebs (xs:=[.tmp 21]) (vals:=[.agg (inC Ex.pt (some ⟨gw,0,none⟩) 2 2).toArray]) (vs:=(inC Ex.pt (some ⟨gw,0,none⟩) 2 2)) U U U U tu44 ts71 ty71 U (by simp [agg_cells,len_in Ex.len_pt]) (by simp [agg_cells]) H ?_)))
      clear H;intro gj W H
      refine ⟨_,fun _ h=>h,H.sb,?_⟩
      refine tR U (fun W H=>b_xtx U U U) (tf U (esk (txC (some ⟨gj,0,none⟩) 1 1 (some ⟨gp,0,none⟩) 1 1 0) U U U ts47 U U H (by decide) U ?_))
      clear H;intro W H
      refine ⟨_,fun _ h=>h,H.sb,?_⟩
      refine t_nil (kn (n_then ?_))
      refine ⟨_,_,U,?_,?_,⟨gu,gj,gp,gw,gm,U,H.pm⟩⟩
      ·with_reducible repeat first|exact .refl|refine .f ?_ ?_ ?_;kernel_rfl;kernel_rfl|refine .u ?_ ?_;kernel_rfl
      ·refine ⟨?_,trivial⟩
       ·exact U
     exact t_none
    refine t_each ?_ ?_
    ·skip
     refine tf U (ebs (xs:=[.tmp 23]) (vals:=[.agg (outC 1 none 0 0).toArray]) (vs:=(outC 1 none 0 0)) U U U U tu45 ts41 ty41 U (by simp [agg_cells,outC]) (by simp [agg_cells]) H ?_)
     clear H;intro gp W H
     refine ⟨_,fun _ h=>h,H.sb,?_⟩
     refine t_each ?_ ?_
     ·skip
      refine tf U (eI Tryz.func25 U U (idTP _ (Ex.rt (S:=fun _=>True) (H.blk (g:=gi)) (H.blk (g:=go)) (H.blk (g:=gs)) trivial trivial trivial) (H.gat hG) (H.gl hB)) H ?_)
      clear H;intro W H
      refine ⟨_,fun _ h=>h,H.sb,?_⟩
      refine tR U (fun W H=>b_xpt Tx.len_dig U U) (tf U (ebs (xs:=[.tmp 18,.tmp 19]) (vals:=[.slice (some ⟨gm,0,none⟩) 16 16,.slice (some ⟨gx,0,none⟩) 32 32]) (vs:=[.slice (some ⟨gm,0,none⟩) 16 16,.slice (some ⟨gx,0,none⟩) 32 32]) U U U U tu66 ts23 ty23 U U U H ?_))
      clear H;intro gw W H
      refine ⟨_,fun _ h=>h,H.sb,?_⟩
      refine tR U (fun W H=>b_xin U U U) (tf U (ebs (xs:=[.tmp 21]) (vals:=[.agg (inC Ex.pt (some ⟨gw,0,none⟩) 2 2).toArray]) (vs:=(inC Ex.pt (some ⟨gw,0,none⟩) 2 2)) U U U U tu44 ts71 ty71 U (by simp [agg_cells,len_in Ex.len_pt]) (by simp [agg_cells]) H ?_))
      clear H;intro gj W H
      refine ⟨_,fun _ h=>h,H.sb,?_⟩
      refine tR U (fun W H=>b_xtx U U U) (tf U (esk (txC (some ⟨gj,0,none⟩) 1 1 (some ⟨gp,0,none⟩) 1 1 0) U U U ts47 U U H (by decide) U ?_))
      clear H;intro W H
      refine ⟨_,fun _ h=>h,H.sb,?_⟩
      refine t_nil (kn (n_then ?_))
      refine ⟨_,_,U,?_,?_,⟨gu,gj,gp,gw,gm,U,H.pm⟩⟩
      ·with_reducible repeat first|exact .refl|refine .f ?_ ?_ ?_;kernel_rfl;kernel_rfl|refine .u ?_ ?_;kernel_rfl
      ·refine ⟨?_,trivial⟩
       ·exact U
     refine t_each ?_ ?_
     ·skip
      refine tf U (ebs (xs:=[.tmp 18,.tmp 19]) (vals:=[.slice (some ⟨gm,0,none⟩) 16 16,.slice (some ⟨gx,0,none⟩) 32 32]) (vs:=[.slice (some ⟨gm,0,none⟩) 16 16,.slice (some ⟨gx,0,none⟩) 32 32]) U U U U tu66 ts23 ty23 U U U H ?_)
      clear H;intro gw W H
      refine ⟨_,fun _ h=>h,H.sb,?_⟩
      refine tf U (eI Tryz.func25 U U (idTP _ (Ex.rt (S:=fun _=>True) (H.blk (g:=gi)) (H.blk (g:=go)) (H.blk (g:=gs)) trivial trivial trivial) (H.gat hG) (H.gl hB)) H ?_)
      clear H;intro W H
      refine ⟨_,fun _ h=>h,H.sb,?_⟩
      refine tR U (fun W H=>b_xpt Tx.len_dig U U) (tR U (fun W H=>b_xin U U U) (tf U (ebs (xs:=[.tmp 21]) (vals:=[.agg (inC Ex.pt (some ⟨gw,0,none⟩) 2 2).toArray]) (vs:=(inC Ex.pt (some ⟨gw,0,none⟩) 2 2)) U U U U tu44 ts71 ty71 U (by simp [agg_cells,len_in Ex.len_pt]) (by simp [agg_cells]) H ?_)))
      clear H;intro gj W H
      refine ⟨_,fun _ h=>h,H.sb,?_⟩
      refine tR U (fun W H=>b_xtx U U U) (tf U (esk (txC (some ⟨gj,0,none⟩) 1 1 (some ⟨gp,0,none⟩) 1 1 0) U U U ts47 U U H (by decide) U ?_))
      clear H;intro W H
      refine ⟨_,fun _ h=>h,H.sb,?_⟩
      refine t_nil (kn (n_then ?_))
      refine ⟨_,_,U,?_,?_,⟨gu,gj,gp,gw,gm,U,H.pm⟩⟩
      ·with_reducible repeat first|exact .refl|refine .f ?_ ?_ ?_;kernel_rfl;kernel_rfl|refine .u ?_ ?_;kernel_rfl
      ·refine ⟨?_,trivial⟩
       ·exact U
     exact t_none
    exact t_none
   exact t_none
  refine t_each ?_ ?_
  ·skip
   refine tf U (ebs (xs:=[.tmp 23]) (vals:=[.agg (outC 1 none 0 0).toArray]) (vs:=(outC 1 none 0 0)) U U U U tu45 ts41 ty41 U (by simp [agg_cells,outC]) (by simp [agg_cells]) H ?_)
   clear H;intro gp W H
   refine ⟨_,fun _ h=>h,H.sb,?_⟩
   refine t_each ?_ ?_
   ·skip
    refine tf U (eI Tryz.func25 U U (idTP _ (Ex.rt (S:=fun _=>True) (H.blk (g:=gi)) (H.blk (g:=go)) (H.blk (g:=gs)) trivial trivial trivial) (H.gat hG) (H.gl hB)) H ?_)
    clear H;intro W H
    refine ⟨_,fun _ h=>h,H.sb,?_⟩
    refine tR U (fun W H=>b_xpt Tx.len_dig U U) (t_each ?_ ?_)
    ·skip
     refine tf U (e_mks (wn U) U U U U (m:=16) U (by decide) tu23 tz5 tx5 H ?_)
     clear H;intro gm W H
     refine ⟨_,fun _ h=>h,H.sb,?_⟩
     refine t_each ?_ ?_
     ·skip
      refine tf U (ebs (xs:=[.tmp 18,.tmp 19]) (vals:=[.slice (some ⟨gm,0,none⟩) 16 16,.slice (some ⟨gx,0,none⟩) 32 32]) (vs:=[.slice (some ⟨gm,0,none⟩) 16 16,.slice (some ⟨gx,0,none⟩) 32 32]) U U U U tu66 ts23 ty23 U U U H ?_)
      clear H;intro gw W H
      refine ⟨_,fun _ h=>h,H.sb,?_⟩
      refine tR U (fun W H=>b_xin U U U) (t_each ?_ ?_)
      ·skip
       refine tf U (ebs (xs:=[.tmp 21]) (vals:=[.agg (inC Ex.pt (some ⟨gw,0,none⟩) 2 2).toArray]) (vs:=(inC Ex.pt (some ⟨gw,0,none⟩) 2 2)) U U U U tu44 ts71 ty71 U (by simp [agg_cells,len_in Ex.len_pt]) (by simp [agg_cells]) H ?_)
       clear H;intro gj W H
       refine ⟨_,fun _ h=>h,H.sb,?_⟩
       refine tR U (fun W H=>b_xtx U U U) (tf U (eal [.slice none 0 0,.slice none 0 0,.int .i64 0] tz47 H ?_))
       clear H;intro gu W H
       refine ⟨_,fun _ h=>h,H.sb,?_⟩
       refine tf U (esk (txC (some ⟨gj,0,none⟩) 1 1 (some ⟨gp,0,none⟩) 1 1 0) U U U ts47 U U H (by decide) U ?_)
       clear H;intro W H
       refine ⟨_,fun _ h=>h,H.sb,?_⟩
       refine t_nil (kn (n_then ?_))
       refine ⟨_,_,U,?_,?_,⟨gu,gj,gp,gw,gm,U,H.pm⟩⟩
       ·with_reducible repeat first|exact .refl|refine .f ?_ ?_ ?_;kernel_rfl;kernel_rfl|refine .u ?_ ?_;kernel_rfl
       ·refine ⟨?_,trivial⟩
        ·exact U
      refine t_each ?_ ?_
      ·skip
       refine tf U (eal [.slice none 0 0,.slice none 0 0,.int .i64 0] tz47 H ?_)
       clear H;intro gu W H
       refine ⟨_,fun _ h=>h,H.sb,?_⟩
       refine tf U (ebs (xs:=[.tmp 21]) (vals:=[.agg (inC Ex.pt (some ⟨gw,0,none⟩) 2 2).toArray]) (vs:=(inC Ex.pt (some ⟨gw,0,none⟩) 2 2)) U U U U tu44 ts71 ty71 U (by simp [agg_cells,len_in Ex.len_pt]) (by simp [agg_cells]) H ?_)
       clear H;intro gj W H
       refine ⟨_,fun _ h=>h,H.sb,?_⟩
       refine tR U (fun W H=>b_xtx U U U) (tf U (esk (txC (some ⟨gj,0,none⟩) 1 1 (some ⟨gp,0,none⟩) 1 1 0) U U U ts47 U U H (by decide) U ?_))
       clear H;intro W H
       refine ⟨_,fun _ h=>h,H.sb,?_⟩
       refine t_nil (kn (n_then ?_))
       refine ⟨_,_,U,?_,?_,⟨gu,gj,gp,gw,gm,U,H.pm⟩⟩
       ·with_reducible repeat first|exact .refl|refine .f ?_ ?_ ?_;kernel_rfl;kernel_rfl|refine .u ?_ ?_;kernel_rfl
       ·refine ⟨?_,trivial⟩
        ·exact U
      exact t_none
     refine t_each ?_ ?_
     ·skip
      refine tf U (eal [.slice none 0 0,.slice none 0 0,.int .i64 0] tz47 H ?_)
      clear H;intro gu W H
      refine ⟨_,fun _ h=>h,H.sb,?_⟩
      refine tf U (ebs (xs:=[.tmp 18,.tmp 19]) (vals:=[.slice (some ⟨gm,0,none⟩) 16 16,.slice (some ⟨gx,0,none⟩) 32 32]) (vs:=[.slice (some ⟨gm,0,none⟩) 16 16,.slice (some ⟨gx,0,none⟩) 32 32]) U U U U tu66 ts23 ty23 U U U H ?_)
      clear H;intro gw W H
      refine ⟨_,fun _ h=>h,H.sb,?_⟩
      refine tR U (fun W H=>b_xin U U U) (tf U (ebs (xs:=[.tmp 21]) (vals:=[.agg (inC Ex.pt (some ⟨gw,0,none⟩) 2 2).toArray]) (vs:=(inC Ex.pt (some ⟨gw,0,none⟩) 2 2)) U U U U tu44 ts71 ty71 U (by simp [agg_cells,len_in Ex.len_pt]) (by simp [agg_cells]) H ?_))
      clear H;intro gj W H
      refine ⟨_,fun _ h=>h,H.sb,?_⟩
      refine tR U (fun W H=>b_xtx U U U) (tf U (esk (txC (some ⟨gj,0,none⟩) 1 1 (some ⟨gp,0,none⟩) 1 1 0) U U U ts47 U U H (by decide) U ?_))
      clear H;intro W H
      refine ⟨_,fun _ h=>h,H.sb,?_⟩
      refine t_nil (kn (n_then ?_))
      refine ⟨_,_,U,?_,?_,⟨gu,gj,gp,gw,gm,U,H.pm⟩⟩
      ·with_reducible repeat first|exact .refl|refine .f ?_ ?_ ?_;kernel_rfl;kernel_rfl|refine .u ?_ ?_;kernel_rfl
      ·refine ⟨?_,trivial⟩
       ·exact U
     exact t_none
    refine t_each ?_ ?_
    ·skip
     refine tf U (eal [.slice none 0 0,.slice none 0 0,.int .i64 0] tz47 H ?_)
     clear H;intro gu W H
     refine ⟨_,fun _ h=>h,H.sb,?_⟩
     refine tf U (e_mks (wn U) U U U U (m:=16) U (by decide) tu23 tz5 tx5 H ?_)
     clear H;intro gm W H
     refine ⟨_,fun _ h=>h,H.sb,?_⟩
     refine tf U (ebs (xs:=[.tmp 18,.tmp 19]) (vals:=[.slice (some ⟨gm,0,none⟩) 16 16,.slice (some ⟨gx,0,none⟩) 32 32]) (vs:=[.slice (some ⟨gm,0,none⟩) 16 16,.slice (some ⟨gx,0,none⟩) 32 32]) U U U U tu66 ts23 ty23 U U U H ?_)
     clear H;intro gw W H
     refine ⟨_,fun _ h=>h,H.sb,?_⟩
     refine tR U (fun W H=>b_xin U U U) (tf U (ebs (xs:=[.tmp 21]) (vals:=[.agg (inC Ex.pt (some ⟨gw,0,none⟩) 2 2).toArray]) (vs:=(inC Ex.pt (some ⟨gw,0,none⟩) 2 2)) U U U U tu44 ts71 ty71 U (by simp [agg_cells,len_in Ex.len_pt]) (by simp [agg_cells]) H ?_))
     clear H;intro gj W H
     refine ⟨_,fun _ h=>h,H.sb,?_⟩
     refine tR U (fun W H=>b_xtx U U U) (tf U (esk (txC (some ⟨gj,0,none⟩) 1 1 (some ⟨gp,0,none⟩) 1 1 0) U U U ts47 U U H (by decide) U ?_))
     clear H;intro W H
     refine ⟨_,fun _ h=>h,H.sb,?_⟩
     refine t_nil (kn (n_then ?_))
     refine ⟨_,_,U,?_,?_,⟨gu,gj,gp,gw,gm,U,H.pm⟩⟩
     ·with_reducible repeat first|exact .refl|refine .f ?_ ?_ ?_;kernel_rfl;kernel_rfl|refine .u ?_ ?_;kernel_rfl
     ·refine ⟨?_,trivial⟩
      ·exact U
    exact t_none
   refine t_each ?_ ?_
   ·skip
    refine tf U (e_mks (wn U) U U U U (m:=16) U (by decide) tu23 tz5 tx5 H ?_)
    clear H;intro gm W H
    refine ⟨_,fun _ h=>h,H.sb,?_⟩
    refine t_each ?_ ?_
    ·skip
     refine tf U (eI Tryz.func25 U U (idTP _ (Ex.rt (S:=fun _=>True) (H.blk (g:=gi)) (H.blk (g:=go)) (H.blk (g:=gs)) trivial trivial trivial) (H.gat hG) (H.gl hB)) H ?_)
     clear H;intro W H
     refine ⟨_,fun _ h=>h,H.sb,?_⟩
     refine tR U (fun W H=>b_xpt Tx.len_dig U U) (t_each ?_ ?_)
     ·skip
      refine tf U (ebs (xs:=[.tmp 18,.tmp 19]) (vals:=[.slice (some ⟨gm,0,none⟩) 16 16,.slice (some ⟨gx,0,none⟩) 32 32]) (vs:=[.slice (some ⟨gm,0,none⟩) 16 16,.slice (some ⟨gx,0,none⟩) 32 32]) U U U U tu66 ts23 ty23 U U U H ?_)
      clear H;intro gw W H
      refine ⟨_,fun _ h=>h,H.sb,?_⟩
      refine tR U (fun W H=>b_xin U U U) (t_each ?_ ?_)
      ·skip
       refine tf U (ebs (xs:=[.tmp 21]) (vals:=[.agg (inC Ex.pt (some ⟨gw,0,none⟩) 2 2).toArray]) (vs:=(inC Ex.pt (some ⟨gw,0,none⟩) 2 2)) U U U U tu44 ts71 ty71 U (by simp [agg_cells,len_in Ex.len_pt]) (by simp [agg_cells]) H ?_)
       clear H;intro gj W H
       refine ⟨_,fun _ h=>h,H.sb,?_⟩
       refine tR U (fun W H=>b_xtx U U U) (tf U (eal [.slice none 0 0,.slice none 0 0,.int .i64 0] tz47 H ?_))
       clear H;intro gu W H
       refine ⟨_,fun _ h=>h,H.sb,?_⟩
       refine tf U (esk (txC (some ⟨gj,0,none⟩) 1 1 (some ⟨gp,0,none⟩) 1 1 0) U U U ts47 U U H (by decide) U ?_)
       clear H;intro W H
       refine ⟨_,fun _ h=>h,H.sb,?_⟩
       refine t_nil (kn (n_then ?_))
       refine ⟨_,_,U,?_,?_,⟨gu,gj,gp,gw,gm,U,H.pm⟩⟩
       ·with_reducible repeat first|exact .refl|refine .f ?_ ?_ ?_;kernel_rfl;kernel_rfl|refine .u ?_ ?_;kernel_rfl
       ·refine ⟨?_,trivial⟩
        ·exact U
      refine t_each ?_ ?_
      ·skip
       refine tf U (eal [.slice none 0 0,.slice none 0 0,.int .i64 0] tz47 H ?_)
       clear H;intro gu W H
       refine ⟨_,fun _ h=>h,H.sb,?_⟩
       refine tf U (ebs (xs:=[.tmp 21]) (vals:=[.agg (inC Ex.pt (some ⟨gw,0,none⟩) 2 2).toArray]) (vs:=(inC Ex.pt (some ⟨gw,0,none⟩) 2 2)) U U U U tu44 ts71 ty71 U (by simp [agg_cells,len_in Ex.len_pt]) (by simp [agg_cells]) H ?_)
       clear H;intro gj W H
       refine ⟨_,fun _ h=>h,H.sb,?_⟩
       refine tR U (fun W H=>b_xtx U U U) (tf U (esk (txC (some ⟨gj,0,none⟩) 1 1 (some ⟨gp,0,none⟩) 1 1 0) U U U ts47 U U H (by decide) U ?_))
       clear H;intro W H
       refine ⟨_,fun _ h=>h,H.sb,?_⟩
       refine t_nil (kn (n_then ?_))
       refine ⟨_,_,U,?_,?_,⟨gu,gj,gp,gw,gm,U,H.pm⟩⟩
       ·with_reducible repeat first|exact .refl|refine .f ?_ ?_ ?_;kernel_rfl;kernel_rfl|refine .u ?_ ?_;kernel_rfl
       ·refine ⟨?_,trivial⟩
        ·exact U
      exact t_none
     refine t_each ?_ ?_
     ·skip
      refine tf U (eal [.slice none 0 0,.slice none 0 0,.int .i64 0] tz47 H ?_)
      clear H;intro gu W H
      refine ⟨_,fun _ h=>h,H.sb,?_⟩
      refine tf U (ebs (xs:=[.tmp 18,.tmp 19]) (vals:=[.slice (some ⟨gm,0,none⟩) 16 16,.slice (some ⟨gx,0,none⟩) 32 32]) (vs:=[.slice (some ⟨gm,0,none⟩) 16 16,.slice (some ⟨gx,0,none⟩) 32 32]) U U U U tu66 ts23 ty23 U U U H ?_)
      clear H;intro gw W H
      refine ⟨_,fun _ h=>h,H.sb,?_⟩
      refine tR U (fun W H=>b_xin U U U) (tf U (ebs (xs:=[.tmp 21]) (vals:=[.agg (inC Ex.pt (some ⟨gw,0,none⟩) 2 2).toArray]) (vs:=(inC Ex.pt (some ⟨gw,0,none⟩) 2 2)) U U U U tu44 ts71 ty71 U (by simp [agg_cells,len_in Ex.len_pt]) (by simp [agg_cells]) H ?_))
      clear H;intro gj W H
      refine ⟨_,fun _ h=>h,H.sb,?_⟩
      refine tR U (fun W H=>b_xtx U U U) (tf U (esk (txC (some ⟨gj,0,none⟩) 1 1 (some ⟨gp,0,none⟩) 1 1 0) U U U ts47 U U H (by decide) U ?_))
      clear H;intro W H
      refine ⟨_,fun _ h=>h,H.sb,?_⟩
      refine t_nil (kn (n_then ?_))
      refine ⟨_,_,U,?_,?_,⟨gu,gj,gp,gw,gm,U,H.pm⟩⟩
      ·with_reducible repeat first|exact .refl|refine .f ?_ ?_ ?_;kernel_rfl;kernel_rfl|refine .u ?_ ?_;kernel_rfl
      ·refine ⟨?_,trivial⟩
       ·exact U
     exact t_none
    refine t_each ?_ ?_
    ·skip
     refine tf U (ebs (xs:=[.tmp 18,.tmp 19]) (vals:=[.slice (some ⟨gm,0,none⟩) 16 16,.slice (some ⟨gx,0,none⟩) 32 32]) (vs:=[.slice (some ⟨gm,0,none⟩) 16 16,.slice (some ⟨gx,0,none⟩) 32 32]) U U U U tu66 ts23 ty23 U U U H ?_)
     clear H;intro gw W H
     refine ⟨_,fun _ h=>h,H.sb,?_⟩
     refine t_each ?_ ?_
     ·skip
      refine tf U (eI Tryz.func25 U U (idTP _ (Ex.rt (S:=fun _=>True) (H.blk (g:=gi)) (H.blk (g:=go)) (H.blk (g:=gs)) trivial trivial trivial) (H.gat hG) (H.gl hB)) H ?_)
      clear H;intro W H
      refine ⟨_,fun _ h=>h,H.sb,?_⟩
      refine tR U (fun W H=>b_xpt Tx.len_dig U U) (tR U (fun W H=>b_xin U U U) (t_each ?_ ?_))
      ·skip
       refine tf U (ebs (xs:=[.tmp 21]) (vals:=[.agg (inC Ex.pt (some ⟨gw,0,none⟩) 2 2).toArray]) (vs:=(inC Ex.pt (some ⟨gw,0,none⟩) 2 2)) U U U U tu44 ts71 ty71 U (by simp [agg_cells,len_in Ex.len_pt]) (by simp [agg_cells]) H ?_)
       clear H;intro gj W H
       refine ⟨_,fun _ h=>h,H.sb,?_⟩
       refine tR U (fun W H=>b_xtx U U U) (tf U (eal [.slice none 0 0,.slice none 0 0,.int .i64 0] tz47 H ?_))
       clear H;intro gu W H
       refine ⟨_,fun _ h=>h,H.sb,?_⟩
       refine tf U (esk (txC (some ⟨gj,0,none⟩) 1 1 (some ⟨gp,0,none⟩) 1 1 0) U U U ts47 U U H (by decide) U ?_)
       clear H;intro W H
       refine ⟨_,fun _ h=>h,H.sb,?_⟩
       refine t_nil (kn (n_then ?_))
       refine ⟨_,_,U,?_,?_,⟨gu,gj,gp,gw,gm,U,H.pm⟩⟩
       ·with_reducible repeat first|exact .refl|refine .f ?_ ?_ ?_;kernel_rfl;kernel_rfl|refine .u ?_ ?_;kernel_rfl
       ·refine ⟨?_,trivial⟩
        ·exact U
      refine t_each ?_ ?_
      ·skip
       refine tf U (eal [.slice none 0 0,.slice none 0 0,.int .i64 0] tz47 H ?_)
       clear H;intro gu W H
       refine ⟨_,fun _ h=>h,H.sb,?_⟩
       refine tf U (ebs (xs:=[.tmp 21]) (vals:=[.agg (inC Ex.pt (some ⟨gw,0,none⟩) 2 2).toArray]) (vs:=(inC Ex.pt (some ⟨gw,0,none⟩) 2 2)) U U U U tu44 ts71 ty71 U (by simp [agg_cells,len_in Ex.len_pt]) (by simp [agg_cells]) H ?_)
       clear H;intro gj W H
       refine ⟨_,fun _ h=>h,H.sb,?_⟩
       refine tR U (fun W H=>b_xtx U U U) (tf U (esk (txC (some ⟨gj,0,none⟩) 1 1 (some ⟨gp,0,none⟩) 1 1 0) U U U ts47 U U H (by decide) U ?_))
       clear H;intro W H
       refine ⟨_,fun _ h=>h,H.sb,?_⟩
       refine t_nil (kn (n_then ?_))
       refine ⟨_,_,U,?_,?_,⟨gu,gj,gp,gw,gm,U,H.pm⟩⟩
       ·with_reducible repeat first|exact .refl|refine .f ?_ ?_ ?_;kernel_rfl;kernel_rfl|refine .u ?_ ?_;kernel_rfl
       ·refine ⟨?_,trivial⟩
        ·exact U
      exact t_none
     refine t_each ?_ ?_
     ·skip
      refine tf U (eal [.slice none 0 0,.slice none 0 0,.int .i64 0] tz47 H ?_)
      clear H;intro gu W H
      refine ⟨_,fun _ h=>h,H.sb,?_⟩
      refine tf U (eI Tryz.func25 U U (idTP _ (Ex.rt (S:=fun _=>True) (H.blk (g:=gi)) (H.blk (g:=go)) (H.blk (g:=gs)) trivial trivial trivial) (H.gat hG) (H.gl hB)) H ?_)
      clear H;intro W H
      refine ⟨_,fun _ h=>h,H.sb,?_⟩
      refine tR U (fun W H=>b_xpt Tx.len_dig U U) (tR U (fun W H=>b_xin U U U) (tf U (ebs (xs:=[.tmp 21]) (vals:=[.agg (inC Ex.pt (some ⟨gw,0,none⟩) 2 2).toArray]) (vs:=(inC Ex.pt (some ⟨gw,0,none⟩) 2 2)) U U U U tu44 ts71 ty71 U (by simp [agg_cells,len_in Ex.len_pt]) (by simp [agg_cells]) H ?_)))
      clear H;intro gj W H
      refine ⟨_,fun _ h=>h,H.sb,?_⟩
      refine tR U (fun W H=>b_xtx U U U) (tf U (esk (txC (some ⟨gj,0,none⟩) 1 1 (some ⟨gp,0,none⟩) 1 1 0) U U U ts47 U U H (by decide) U ?_))
      clear H;intro W H
      refine ⟨_,fun _ h=>h,H.sb,?_⟩
      refine t_nil (kn (n_then ?_))
      refine ⟨_,_,U,?_,?_,⟨gu,gj,gp,gw,gm,U,H.pm⟩⟩
      ·with_reducible repeat first|exact .refl|refine .f ?_ ?_ ?_;kernel_rfl;kernel_rfl|refine .u ?_ ?_;kernel_rfl
      ·refine ⟨?_,trivial⟩
       ·exact U
     exact t_none
    refine t_each ?_ ?_
    ·skip
     refine tf U (eal [.slice none 0 0,.slice none 0 0,.int .i64 0] tz47 H ?_)
     clear H;intro gu W H
     refine ⟨_,fun _ h=>h,H.sb,?_⟩
     refine t_each ?_ ?_
     ·skip
      refine tf U (eI Tryz.func25 U U (idTP _ (Ex.rt (S:=fun _=>True) (H.blk (g:=gi)) (H.blk (g:=go)) (H.blk (g:=gs)) trivial trivial trivial) (H.gat hG) (H.gl hB)) H ?_)
      clear H;intro W H
      refine ⟨_,fun _ h=>h,H.sb,?_⟩
      refine tR U (fun W H=>b_xpt Tx.len_dig U U) (tf U (ebs (xs:=[.tmp 18,.tmp 19]) (vals:=[.slice (some ⟨gm,0,none⟩) 16 16,.slice (some ⟨gx,0,none⟩) 32 32]) (vs:=[.slice (some ⟨gm,0,none⟩) 16 16,.slice (some ⟨gx,0,none⟩) 32 32]) U U U U tu66 ts23 ty23 U U U H ?_))
      clear H;intro gw W H
      refine ⟨_,fun _ h=>h,H.sb,?_⟩
      refine tR U (fun W H=>b_xin U U U) (tf U (ebs (xs:=[.tmp 21]) (vals:=[.agg (inC Ex.pt (some ⟨gw,0,none⟩) 2 2).toArray]) (vs:=(inC Ex.pt (some ⟨gw,0,none⟩) 2 2)) U U U U tu44 ts71 ty71 U (by simp [agg_cells,len_in Ex.len_pt]) (by simp [agg_cells]) H ?_))
      clear H;intro gj W H
      refine ⟨_,fun _ h=>h,H.sb,?_⟩
      refine tR U (fun W H=>b_xtx U U U) (tf U (esk (txC (some ⟨gj,0,none⟩) 1 1 (some ⟨gp,0,none⟩) 1 1 0) U U U ts47 U U H (by decide) U ?_))
      clear H;intro W H
      refine ⟨_,fun _ h=>h,H.sb,?_⟩
      refine t_nil (kn (n_then ?_))
      refine ⟨_,_,U,?_,?_,⟨gu,gj,gp,gw,gm,U,H.pm⟩⟩
      ·with_reducible repeat first|exact .refl|refine .f ?_ ?_ ?_;kernel_rfl;kernel_rfl|refine .u ?_ ?_;kernel_rfl
      ·refine ⟨?_,trivial⟩
       ·exact U
     refine t_each ?_ ?_
     ·skip
      refine tf U (ebs (xs:=[.tmp 18,.tmp 19]) (vals:=[.slice (some ⟨gm,0,none⟩) 16 16,.slice (some ⟨gx,0,none⟩) 32 32]) (vs:=[.slice (some ⟨gm,0,none⟩) 16 16,.slice (some ⟨gx,0,none⟩) 32 32]) U U U U tu66 ts23 ty23 U U U H ?_)
      clear H;intro gw W H
      refine ⟨_,fun _ h=>h,H.sb,?_⟩
      refine tf U (eI Tryz.func25 U U (idTP _ (Ex.rt (S:=fun _=>True) (H.blk (g:=gi)) (H.blk (g:=go)) (H.blk (g:=gs)) trivial trivial trivial) (H.gat hG) (H.gl hB)) H ?_)
      clear H;intro W H
      refine ⟨_,fun _ h=>h,H.sb,?_⟩
      refine tR U (fun W H=>b_xpt Tx.len_dig U U) (tR U (fun W H=>b_xin U U U) (tf U (ebs (xs:=[.tmp 21]) (vals:=[.agg (inC Ex.pt (some ⟨gw,0,none⟩) 2 2).toArray]) (vs:=(inC Ex.pt (some ⟨gw,0,none⟩) 2 2)) U U U U tu44 ts71 ty71 U (by simp [agg_cells,len_in Ex.len_pt]) (by simp [agg_cells]) H ?_)))
      clear H;intro gj W H
      refine ⟨_,fun _ h=>h,H.sb,?_⟩
      refine tR U (fun W H=>b_xtx U U U) (tf U (esk (txC (some ⟨gj,0,none⟩) 1 1 (some ⟨gp,0,none⟩) 1 1 0) U U U ts47 U U H (by decide) U ?_))
      clear H;intro W H
      refine ⟨_,fun _ h=>h,H.sb,?_⟩
      refine t_nil (kn (n_then ?_))
      refine ⟨_,_,U,?_,?_,⟨gu,gj,gp,gw,gm,U,H.pm⟩⟩
      ·with_reducible repeat first|exact .refl|refine .f ?_ ?_ ?_;kernel_rfl;kernel_rfl|refine .u ?_ ?_;kernel_rfl
      ·refine ⟨?_,trivial⟩
       ·exact U
     exact t_none
    exact t_none
   refine t_each ?_ ?_
   ·skip
    refine tf U (eal [.slice none 0 0,.slice none 0 0,.int .i64 0] tz47 H ?_)
    clear H;intro gu W H
    refine ⟨_,fun _ h=>h,H.sb,?_⟩
    refine t_each ?_ ?_
    ·skip
     refine tf U (eI Tryz.func25 U U (idTP _ (Ex.rt (S:=fun _=>True) (H.blk (g:=gi)) (H.blk (g:=go)) (H.blk (g:=gs)) trivial trivial trivial) (H.gat hG) (H.gl hB)) H ?_)
     clear H;intro W H
     refine ⟨_,fun _ h=>h,H.sb,?_⟩
     refine tR U (fun W H=>b_xpt Tx.len_dig U U) (tf U (e_mks (wn U) U U U U (m:=16) U (by decide) tu23 tz5 tx5 H ?_))
     clear H;intro gm W H
     refine ⟨_,fun _ h=>h,H.sb,?_⟩
     refine tf U (ebs (xs:=[.tmp 18,.tmp 19]) (vals:=[.slice (some ⟨gm,0,none⟩) 16 16,.slice (some ⟨gx,0,none⟩) 32 32]) (vs:=[.slice (some ⟨gm,0,none⟩) 16 16,.slice (some ⟨gx,0,none⟩) 32 32]) U U U U tu66 ts23 ty23 U U U H ?_)
     clear H;intro gw W H
     refine ⟨_,fun _ h=>h,H.sb,?_⟩
     refine tR U (fun W H=>b_xin U U U) (tf U (ebs (xs:=[.tmp 21]) (vals:=[.agg (inC Ex.pt (some ⟨gw,0,none⟩) 2 2).toArray]) (vs:=(inC Ex.pt (some ⟨gw,0,none⟩) 2 2)) U U U U tu44 ts71 ty71 U (by simp [agg_cells,len_in Ex.len_pt]) (by simp [agg_cells]) H ?_))
     clear H;intro gj W H
     refine ⟨_,fun _ h=>h,H.sb,?_⟩
     refine tR U (fun W H=>b_xtx U U U) (tf U (esk (txC (some ⟨gj,0,none⟩) 1 1 (some ⟨gp,0,none⟩) 1 1 0) U U U ts47 U U H (by decide) U ?_))
     clear H;intro W H
     refine ⟨_,fun _ h=>h,H.sb,?_⟩
     refine t_nil (kn (n_then ?_))
     refine ⟨_,_,U,?_,?_,⟨gu,gj,gp,gw,gm,U,H.pm⟩⟩
     ·with_reducible repeat first|exact .refl|refine .f ?_ ?_ ?_;kernel_rfl;kernel_rfl|refine .u ?_ ?_;kernel_rfl
     ·refine ⟨?_,trivial⟩
      ·exact U
    refine t_each ?_ ?_
    ·skip
     refine tf U (e_mks (wn U) U U U U (m:=16) U (by decide) tu23 tz5 tx5 H ?_)
     clear H;intro gm W H
     refine ⟨_,fun _ h=>h,H.sb,?_⟩
     refine t_each ?_ ?_
     ·skip
      refine tf U (eI Tryz.func25 U U (idTP _ (Ex.rt (S:=fun _=>True) (H.blk (g:=gi)) (H.blk (g:=go)) (H.blk (g:=gs)) trivial trivial trivial) (H.gat hG) (H.gl hB)) H ?_)
      clear H;intro W H
      refine ⟨_,fun _ h=>h,H.sb,?_⟩
      refine tR U (fun W H=>b_xpt Tx.len_dig U U) (tf U (ebs (xs:=[.tmp 18,.tmp 19]) (vals:=[.slice (some ⟨gm,0,none⟩) 16 16,.slice (some ⟨gx,0,none⟩) 32 32]) (vs:=[.slice (some ⟨gm,0,none⟩) 16 16,.slice (some ⟨gx,0,none⟩) 32 32]) U U U U tu66 ts23 ty23 U U U H ?_))
      clear H;intro gw W H
      refine ⟨_,fun _ h=>h,H.sb,?_⟩
      refine tR U (fun W H=>b_xin U U U) (tf U (ebs (xs:=[.tmp 21]) (vals:=[.agg (inC Ex.pt (some ⟨gw,0,none⟩) 2 2).toArray]) (vs:=(inC Ex.pt (some ⟨gw,0,none⟩) 2 2)) U U U U tu44 ts71 ty71 U (by simp [agg_cells,len_in Ex.len_pt]) (by simp [agg_cells]) H ?_))
      clear H;intro gj W H
      refine ⟨_,fun _ h=>h,H.sb,?_⟩
      refine tR U (fun W H=>b_xtx U U U) (tf U (esk (txC (some ⟨gj,0,none⟩) 1 1 (some ⟨gp,0,none⟩) 1 1 0) U U U ts47 U U H (by decide) U ?_))
      clear H;intro W H
      refine ⟨_,fun _ h=>h,H.sb,?_⟩
      refine t_nil (kn (n_then ?_))
      refine ⟨_,_,U,?_,?_,⟨gu,gj,gp,gw,gm,U,H.pm⟩⟩
      ·with_reducible repeat first|exact .refl|refine .f ?_ ?_ ?_;kernel_rfl;kernel_rfl|refine .u ?_ ?_;kernel_rfl
      ·refine ⟨?_,trivial⟩
       ·exact U
     refine t_each ?_ ?_
     ·skip
      refine tf U (ebs (xs:=[.tmp 18,.tmp 19]) (vals:=[.slice (some ⟨gm,0,none⟩) 16 16,.slice (some ⟨gx,0,none⟩) 32 32]) (vs:=[.slice (some ⟨gm,0,none⟩) 16 16,.slice (some ⟨gx,0,none⟩) 32 32]) U U U U tu66 ts23 ty23 U U U H ?_)
      clear H;intro gw W H
      refine ⟨_,fun _ h=>h,H.sb,?_⟩
      refine tf U (eI Tryz.func25 U U (idTP _ (Ex.rt (S:=fun _=>True) (H.blk (g:=gi)) (H.blk (g:=go)) (H.blk (g:=gs)) trivial trivial trivial) (H.gat hG) (H.gl hB)) H ?_)
      clear H;intro W H
      refine ⟨_,fun _ h=>h,H.sb,?_⟩
      refine tR U (fun W H=>b_xpt Tx.len_dig U U) (tR U (fun W H=>b_xin U U U) (tf U (ebs (xs:=[.tmp 21]) (vals:=[.agg (inC Ex.pt (some ⟨gw,0,none⟩) 2 2).toArray]) (vs:=(inC Ex.pt (some ⟨gw,0,none⟩) 2 2)) U U U U tu44 ts71 ty71 U (by simp [agg_cells,len_in Ex.len_pt]) (by simp [agg_cells]) H ?_)))
      clear H;intro gj W H
      refine ⟨_,fun _ h=>h,H.sb,?_⟩
      refine tR U (fun W H=>b_xtx U U U) (tf U (esk (txC (some ⟨gj,0,none⟩) 1 1 (some ⟨gp,0,none⟩) 1 1 0) U U U ts47 U U H (by decide) U ?_))
      clear H;intro W H
      refine ⟨_,fun _ h=>h,H.sb,?_⟩
      refine t_nil (kn (n_then ?_))
      refine ⟨_,_,U,?_,?_,⟨gu,gj,gp,gw,gm,U,H.pm⟩⟩
      ·with_reducible repeat first|exact .refl|refine .f ?_ ?_ ?_;kernel_rfl;kernel_rfl|refine .u ?_ ?_;kernel_rfl
      ·refine ⟨?_,trivial⟩
       ·exact U
     exact t_none
    exact t_none
   exact t_none
  refine t_each ?_ ?_
  ·skip
   refine tf U (eal [.slice none 0 0,.slice none 0 0,.int .i64 0] tz47 H ?_)
   clear H;intro gu W H
   refine ⟨_,fun _ h=>h,H.sb,?_⟩
   refine t_each ?_ ?_
   ·skip
    refine tf U (eI Tryz.func25 U U (idTP _ (Ex.rt (S:=fun _=>True) (H.blk (g:=gi)) (H.blk (g:=go)) (H.blk (g:=gs)) trivial trivial trivial) (H.gat hG) (H.gl hB)) H ?_)
    clear H;intro W H
    refine ⟨_,fun _ h=>h,H.sb,?_⟩
    refine tR U (fun W H=>b_xpt Tx.len_dig U U) (t_each ?_ ?_)
    ·skip
     refine tf U (e_mks (wn U) U U U U (m:=16) U (by decide) tu23 tz5 tx5 H ?_)
     clear H;intro gm W H
     refine ⟨_,fun _ h=>h,H.sb,?_⟩
     refine t_each ?_ ?_
     ·skip
      refine tf U (ebs (xs:=[.tmp 18,.tmp 19]) (vals:=[.slice (some ⟨gm,0,none⟩) 16 16,.slice (some ⟨gx,0,none⟩) 32 32]) (vs:=[.slice (some ⟨gm,0,none⟩) 16 16,.slice (some ⟨gx,0,none⟩) 32 32]) U U U U tu66 ts23 ty23 U U U H ?_)
      clear H;intro gw W H
      refine ⟨_,fun _ h=>h,H.sb,?_⟩
      refine tR U (fun W H=>b_xin U U U) (t_each ?_ ?_)
      ·skip
       refine tf U (ebs (xs:=[.tmp 21]) (vals:=[.agg (inC Ex.pt (some ⟨gw,0,none⟩) 2 2).toArray]) (vs:=(inC Ex.pt (some ⟨gw,0,none⟩) 2 2)) U U U U tu44 ts71 ty71 U (by simp [agg_cells,len_in Ex.len_pt]) (by simp [agg_cells]) H ?_)
       clear H;intro gj W H
       refine ⟨_,fun _ h=>h,H.sb,?_⟩
       refine tf U (ebs (xs:=[.tmp 23]) (vals:=[.agg (outC 1 none 0 0).toArray]) (vs:=(outC 1 none 0 0)) U U U U tu45 ts41 ty41 U (by simp [agg_cells,outC]) (by simp [agg_cells]) H ?_)
       clear H;intro gp W H
       refine ⟨_,fun _ h=>h,H.sb,?_⟩
       refine tR U (fun W H=>b_xtx U U U) (tf U (esk (txC (some ⟨gj,0,none⟩) 1 1 (some ⟨gp,0,none⟩) 1 1 0) U U U ts47 U U H (by decide) U ?_))
       clear H;intro W H
       refine ⟨_,fun _ h=>h,H.sb,?_⟩
       refine t_nil (kn (n_then ?_))
       refine ⟨_,_,U,?_,?_,⟨gu,gj,gp,gw,gm,U,H.pm⟩⟩
       ·with_reducible repeat first|exact .refl|refine .f ?_ ?_ ?_;kernel_rfl;kernel_rfl|refine .u ?_ ?_;kernel_rfl
       ·refine ⟨?_,trivial⟩
        ·exact U
      refine t_each ?_ ?_
      ·skip
       refine tf U (ebs (xs:=[.tmp 23]) (vals:=[.agg (outC 1 none 0 0).toArray]) (vs:=(outC 1 none 0 0)) U U U U tu45 ts41 ty41 U (by simp [agg_cells,outC]) (by simp [agg_cells]) H ?_)
       clear H;intro gp W H
       refine ⟨_,fun _ h=>h,H.sb,?_⟩
       refine tf U (ebs (xs:=[.tmp 21]) (vals:=[.agg (inC Ex.pt (some ⟨gw,0,none⟩) 2 2).toArray]) (vs:=(inC Ex.pt (some ⟨gw,0,none⟩) 2 2)) U U U U tu44 ts71 ty71 U (by simp [agg_cells,len_in Ex.len_pt]) (by simp [agg_cells]) H ?_)
       clear H;intro gj W H
       refine ⟨_,fun _ h=>h,H.sb,?_⟩
       refine tR U (fun W H=>b_xtx U U U) (tf U (esk (txC (some ⟨gj,0,none⟩) 1 1 (some ⟨gp,0,none⟩) 1 1 0) U U U ts47 U U H (by decide) U ?_))
       clear H;intro W H
       refine ⟨_,fun _ h=>h,H.sb,?_⟩
       refine t_nil (kn (n_then ?_))
       refine ⟨_,_,U,?_,?_,⟨gu,gj,gp,gw,gm,U,H.pm⟩⟩
       ·with_reducible repeat first|exact .refl|refine .f ?_ ?_ ?_;kernel_rfl;kernel_rfl|refine .u ?_ ?_;kernel_rfl
       ·refine ⟨?_,trivial⟩
        ·exact U
      exact t_none
     refine t_each ?_ ?_
     ·skip
      refine tf U (ebs (xs:=[.tmp 23]) (vals:=[.agg (outC 1 none 0 0).toArray]) (vs:=(outC 1 none 0 0)) U U U U tu45 ts41 ty41 U (by simp [agg_cells,outC]) (by simp [agg_cells]) H ?_)
      clear H;intro gp W H
      refine ⟨_,fun _ h=>h,H.sb,?_⟩
      refine tf U (ebs (xs:=[.tmp 18,.tmp 19]) (vals:=[.slice (some ⟨gm,0,none⟩) 16 16,.slice (some ⟨gx,0,none⟩) 32 32]) (vs:=[.slice (some ⟨gm,0,none⟩) 16 16,.slice (some ⟨gx,0,none⟩) 32 32]) U U U U tu66 ts23 ty23 U U U H ?_)
      clear H;intro gw W H
      refine ⟨_,fun _ h=>h,H.sb,?_⟩
      refine tR U (fun W H=>b_xin U U U) (tf U (ebs (xs:=[.tmp 21]) (vals:=[.agg (inC Ex.pt (some ⟨gw,0,none⟩) 2 2).toArray]) (vs:=(inC Ex.pt (some ⟨gw,0,none⟩) 2 2)) U U U U tu44 ts71 ty71 U (by simp [agg_cells,len_in Ex.len_pt]) (by simp [agg_cells]) H ?_))
      clear H;intro gj W H
      refine ⟨_,fun _ h=>h,H.sb,?_⟩
      refine tR U (fun W H=>b_xtx U U U) (tf U (esk (txC (some ⟨gj,0,none⟩) 1 1 (some ⟨gp,0,none⟩) 1 1 0) U U U ts47 U U H (by decide) U ?_))
      clear H;intro W H
      refine ⟨_,fun _ h=>h,H.sb,?_⟩
      refine t_nil (kn (n_then ?_))
      refine ⟨_,_,U,?_,?_,⟨gu,gj,gp,gw,gm,U,H.pm⟩⟩
      ·with_reducible repeat first|exact .refl|refine .f ?_ ?_ ?_;kernel_rfl;kernel_rfl|refine .u ?_ ?_;kernel_rfl
      ·refine ⟨?_,trivial⟩
       ·exact U
     exact t_none
    refine t_each ?_ ?_
    ·skip
     refine tf U (ebs (xs:=[.tmp 23]) (vals:=[.agg (outC 1 none 0 0).toArray]) (vs:=(outC 1 none 0 0)) U U U U tu45 ts41 ty41 U (by simp [agg_cells,outC]) (by simp [agg_cells]) H ?_)
     clear H;intro gp W H
     refine ⟨_,fun _ h=>h,H.sb,?_⟩
     refine tf U (e_mks (wn U) U U U U (m:=16) U (by decide) tu23 tz5 tx5 H ?_)
     clear H;intro gm W H
     refine ⟨_,fun _ h=>h,H.sb,?_⟩
     refine tf U (ebs (xs:=[.tmp 18,.tmp 19]) (vals:=[.slice (some ⟨gm,0,none⟩) 16 16,.slice (some ⟨gx,0,none⟩) 32 32]) (vs:=[.slice (some ⟨gm,0,none⟩) 16 16,.slice (some ⟨gx,0,none⟩) 32 32]) U U U U tu66 ts23 ty23 U U U H ?_)
     clear H;intro gw W H
     refine ⟨_,fun _ h=>h,H.sb,?_⟩
     refine tR U (fun W H=>b_xin U U U) (tf U (ebs (xs:=[.tmp 21]) (vals:=[.agg (inC Ex.pt (some ⟨gw,0,none⟩) 2 2).toArray]) (vs:=(inC Ex.pt (some ⟨gw,0,none⟩) 2 2)) U U U U tu44 ts71 ty71 U (by simp [agg_cells,len_in Ex.len_pt]) (by simp [agg_cells]) H ?_))
     clear H;intro gj W H
     refine ⟨_,fun _ h=>h,H.sb,?_⟩
     refine tR U (fun W H=>b_xtx U U U) (tf U (esk (txC (some ⟨gj,0,none⟩) 1 1 (some ⟨gp,0,none⟩) 1 1 0) U U U ts47 U U H (by decide) U ?_))
     clear H;intro W H
     refine ⟨_,fun _ h=>h,H.sb,?_⟩
     refine t_nil (kn (n_then ?_))
     refine ⟨_,_,U,?_,?_,⟨gu,gj,gp,gw,gm,U,H.pm⟩⟩
     ·with_reducible repeat first|exact .refl|refine .f ?_ ?_ ?_;kernel_rfl;kernel_rfl|refine .u ?_ ?_;kernel_rfl
     ·refine ⟨?_,trivial⟩
      ·exact U
    exact t_none
   refine t_each ?_ ?_
   ·skip
    refine tf U (e_mks (wn U) U U U U (m:=16) U (by decide) tu23 tz5 tx5 H ?_)
    clear H;intro gm W H
    refine ⟨_,fun _ h=>h,H.sb,?_⟩
    refine t_each ?_ ?_
    ·skip
     refine tf U (eI Tryz.func25 U U (idTP _ (Ex.rt (S:=fun _=>True) (H.blk (g:=gi)) (H.blk (g:=go)) (H.blk (g:=gs)) trivial trivial trivial) (H.gat hG) (H.gl hB)) H ?_)
     clear H;intro W H
     refine ⟨_,fun _ h=>h,H.sb,?_⟩
     refine tR U (fun W H=>b_xpt Tx.len_dig U U) (t_each ?_ ?_)
     ·skip
      refine tf U (ebs (xs:=[.tmp 18,.tmp 19]) (vals:=[.slice (some ⟨gm,0,none⟩) 16 16,.slice (some ⟨gx,0,none⟩) 32 32]) (vs:=[.slice (some ⟨gm,0,none⟩) 16 16,.slice (some ⟨gx,0,none⟩) 32 32]) U U U U tu66 ts23 ty23 U U U H ?_)
      clear H;intro gw W H
      refine ⟨_,fun _ h=>h,H.sb,?_⟩
      refine tR U (fun W H=>b_xin U U U) (t_each ?_ ?_)
      ·skip
       refine tf U (ebs (xs:=[.tmp 21]) (vals:=[.agg (inC Ex.pt (some ⟨gw,0,none⟩) 2 2).toArray]) (vs:=(inC Ex.pt (some ⟨gw,0,none⟩) 2 2)) U U U U tu44 ts71 ty71 U (by simp [agg_cells,len_in Ex.len_pt]) (by simp [agg_cells]) H ?_)
       clear H;intro gj W H
       refine ⟨_,fun _ h=>h,H.sb,?_⟩
       refine tf U (ebs (xs:=[.tmp 23]) (vals:=[.agg (outC 1 none 0 0).toArray]) (vs:=(outC 1 none 0 0)) U U U U tu45 ts41 ty41 U (by simp [agg_cells,outC]) (by simp [agg_cells]) H ?_)
       clear H;intro gp W H
       refine ⟨_,fun _ h=>h,H.sb,?_⟩
       refine tR U (fun W H=>b_xtx U U U) (tf U (esk (txC (some ⟨gj,0,none⟩) 1 1 (some ⟨gp,0,none⟩) 1 1 0) U U U ts47 U U H (by decide) U ?_))
       clear H;intro W H
       refine ⟨_,fun _ h=>h,H.sb,?_⟩
       refine t_nil (kn (n_then ?_))
       refine ⟨_,_,U,?_,?_,⟨gu,gj,gp,gw,gm,U,H.pm⟩⟩
       ·with_reducible repeat first|exact .refl|refine .f ?_ ?_ ?_;kernel_rfl;kernel_rfl|refine .u ?_ ?_;kernel_rfl
       ·refine ⟨?_,trivial⟩
        ·exact U
      refine t_each ?_ ?_
      ·skip
       refine tf U (ebs (xs:=[.tmp 23]) (vals:=[.agg (outC 1 none 0 0).toArray]) (vs:=(outC 1 none 0 0)) U U U U tu45 ts41 ty41 U (by simp [agg_cells,outC]) (by simp [agg_cells]) H ?_)
       clear H;intro gp W H
       refine ⟨_,fun _ h=>h,H.sb,?_⟩
       refine tf U (ebs (xs:=[.tmp 21]) (vals:=[.agg (inC Ex.pt (some ⟨gw,0,none⟩) 2 2).toArray]) (vs:=(inC Ex.pt (some ⟨gw,0,none⟩) 2 2)) U U U U tu44 ts71 ty71 U (by simp [agg_cells,len_in Ex.len_pt]) (by simp [agg_cells]) H ?_)
       clear H;intro gj W H
       refine ⟨_,fun _ h=>h,H.sb,?_⟩
       refine tR U (fun W H=>b_xtx U U U) (tf U (esk (txC (some ⟨gj,0,none⟩) 1 1 (some ⟨gp,0,none⟩) 1 1 0) U U U ts47 U U H (by decide) U ?_))
       clear H;intro W H
       refine ⟨_,fun _ h=>h,H.sb,?_⟩
       refine t_nil (kn (n_then ?_))
       refine ⟨_,_,U,?_,?_,⟨gu,gj,gp,gw,gm,U,H.pm⟩⟩
       ·with_reducible repeat first|exact .refl|refine .f ?_ ?_ ?_;kernel_rfl;kernel_rfl|refine .u ?_ ?_;kernel_rfl
       ·refine ⟨?_,trivial⟩
        ·exact U
      exact t_none
     refine t_each ?_ ?_
     ·skip
      refine tf U (ebs (xs:=[.tmp 23]) (vals:=[.agg (outC 1 none 0 0).toArray]) (vs:=(outC 1 none 0 0)) U U U U tu45 ts41 ty41 U (by simp [agg_cells,outC]) (by simp [agg_cells]) H ?_)
      clear H;intro gp W H
      refine ⟨_,fun _ h=>h,H.sb,?_⟩
      refine tf U (ebs (xs:=[.tmp 18,.tmp 19]) (vals:=[.slice (some ⟨gm,0,none⟩) 16 16,.slice (some ⟨gx,0,none⟩) 32 32]) (vs:=[.slice (some ⟨gm,0,none⟩) 16 16,.slice (some ⟨gx,0,none⟩) 32 32]) U U U U tu66 ts23 ty23 U U U H ?_)
      clear H;intro gw W H
      refine ⟨_,fun _ h=>h,H.sb,?_⟩
      refine tR U (fun W H=>b_xin U U U) (tf U (ebs (xs:=[.tmp 21]) (vals:=[.agg (inC Ex.pt (some ⟨gw,0,none⟩) 2 2).toArray]) (vs:=(inC Ex.pt (some ⟨gw,0,none⟩) 2 2)) U U U U tu44 ts71 ty71 U (by simp [agg_cells,len_in Ex.len_pt]) (by simp [agg_cells]) H ?_))
      clear H;intro gj W H
      refine ⟨_,fun _ h=>h,H.sb,?_⟩
      refine tR U (fun W H=>b_xtx U U U) (tf U (esk (txC (some ⟨gj,0,none⟩) 1 1 (some ⟨gp,0,none⟩) 1 1 0) U U U ts47 U U H (by decide) U ?_))
      clear H;intro W H
      refine ⟨_,fun _ h=>h,H.sb,?_⟩
      refine t_nil (kn (n_then ?_))
      refine ⟨_,_,U,?_,?_,⟨gu,gj,gp,gw,gm,U,H.pm⟩⟩
      ·with_reducible repeat first|exact .refl|refine .f ?_ ?_ ?_;kernel_rfl;kernel_rfl|refine .u ?_ ?_;kernel_rfl
      ·refine ⟨?_,trivial⟩
       ·exact U
     exact t_none
    refine t_each ?_ ?_
    ·skip
     refine tf U (ebs (xs:=[.tmp 18,.tmp 19]) (vals:=[.slice (some ⟨gm,0,none⟩) 16 16,.slice (some ⟨gx,0,none⟩) 32 32]) (vs:=[.slice (some ⟨gm,0,none⟩) 16 16,.slice (some ⟨gx,0,none⟩) 32 32]) U U U U tu66 ts23 ty23 U U U H ?_)
     clear H;intro gw W H
     refine ⟨_,fun _ h=>h,H.sb,?_⟩
     refine t_each ?_ ?_
     ·skip
      refine tf U (eI Tryz.func25 U U (idTP _ (Ex.rt (S:=fun _=>True) (H.blk (g:=gi)) (H.blk (g:=go)) (H.blk (g:=gs)) trivial trivial trivial) (H.gat hG) (H.gl hB)) H ?_)
      clear H;intro W H
      refine ⟨_,fun _ h=>h,H.sb,?_⟩
      refine tR U (fun W H=>b_xpt Tx.len_dig U U) (tR U (fun W H=>b_xin U U U) (t_each ?_ ?_))
      ·skip
       refine tf U (ebs (xs:=[.tmp 21]) (vals:=[.agg (inC Ex.pt (some ⟨gw,0,none⟩) 2 2).toArray]) (vs:=(inC Ex.pt (some ⟨gw,0,none⟩) 2 2)) U U U U tu44 ts71 ty71 U (by simp [agg_cells,len_in Ex.len_pt]) (by simp [agg_cells]) H ?_)
       clear H;intro gj W H
       refine ⟨_,fun _ h=>h,H.sb,?_⟩
       refine tf U (ebs (xs:=[.tmp 23]) (vals:=[.agg (outC 1 none 0 0).toArray]) (vs:=(outC 1 none 0 0)) U U U U tu45 ts41 ty41 U (by simp [agg_cells,outC]) (by simp [agg_cells]) H ?_)
       clear H;intro gp W H
       refine ⟨_,fun _ h=>h,H.sb,?_⟩
       refine tR U (fun W H=>b_xtx U U U) (tf U (esk (txC (some ⟨gj,0,none⟩) 1 1 (some ⟨gp,0,none⟩) 1 1 0) U U U ts47 U U H (by decide) U ?_))
       clear H;intro W H
       refine ⟨_,fun _ h=>h,H.sb,?_⟩
       refine t_nil (kn (n_then ?_))
       refine ⟨_,_,U,?_,?_,⟨gu,gj,gp,gw,gm,U,H.pm⟩⟩
       ·with_reducible repeat first|exact .refl|refine .f ?_ ?_ ?_;kernel_rfl;kernel_rfl|refine .u ?_ ?_;kernel_rfl
       ·refine ⟨?_,trivial⟩
        ·exact U
      refine t_each ?_ ?_
      ·skip
       refine tf U (ebs (xs:=[.tmp 23]) (vals:=[.agg (outC 1 none 0 0).toArray]) (vs:=(outC 1 none 0 0)) U U U U tu45 ts41 ty41 U (by simp [agg_cells,outC]) (by simp [agg_cells]) H ?_)
       clear H;intro gp W H
       refine ⟨_,fun _ h=>h,H.sb,?_⟩
       refine tf U (ebs (xs:=[.tmp 21]) (vals:=[.agg (inC Ex.pt (some ⟨gw,0,none⟩) 2 2).toArray]) (vs:=(inC Ex.pt (some ⟨gw,0,none⟩) 2 2)) U U U U tu44 ts71 ty71 U (by simp [agg_cells,len_in Ex.len_pt]) (by simp [agg_cells]) H ?_)
       clear H;intro gj W H
       refine ⟨_,fun _ h=>h,H.sb,?_⟩
       refine tR U (fun W H=>b_xtx U U U) (tf U (esk (txC (some ⟨gj,0,none⟩) 1 1 (some ⟨gp,0,none⟩) 1 1 0) U U U ts47 U U H (by decide) U ?_))
       clear H;intro W H
       refine ⟨_,fun _ h=>h,H.sb,?_⟩
       refine t_nil (kn (n_then ?_))
       refine ⟨_,_,U,?_,?_,⟨gu,gj,gp,gw,gm,U,H.pm⟩⟩
       ·with_reducible repeat first|exact .refl|refine .f ?_ ?_ ?_;kernel_rfl;kernel_rfl|refine .u ?_ ?_;kernel_rfl
       ·refine ⟨?_,trivial⟩
        ·exact U
      exact t_none
     refine t_each ?_ ?_
     ·skip
      refine tf U (ebs (xs:=[.tmp 23]) (vals:=[.agg (outC 1 none 0 0).toArray]) (vs:=(outC 1 none 0 0)) U U U U tu45 ts41 ty41 U (by simp [agg_cells,outC]) (by simp [agg_cells]) H ?_)
      clear H;intro gp W H
      refine ⟨_,fun _ h=>h,H.sb,?_⟩
      refine tf U (eI Tryz.func25 U U (idTP _ (Ex.rt (S:=fun _=>True) (H.blk (g:=gi)) (H.blk (g:=go)) (H.blk (g:=gs)) trivial trivial trivial) (H.gat hG) (H.gl hB)) H ?_)
      clear H;intro W H
      refine ⟨_,fun _ h=>h,H.sb,?_⟩
      refine tR U (fun W H=>b_xpt Tx.len_dig U U) (tR U (fun W H=>b_xin U U U) (tf U (ebs (xs:=[.tmp 21]) (vals:=[.agg (inC Ex.pt (some ⟨gw,0,none⟩) 2 2).toArray]) (vs:=(inC Ex.pt (some ⟨gw,0,none⟩) 2 2)) U U U U tu44 ts71 ty71 U (by simp [agg_cells,len_in Ex.len_pt]) (by simp [agg_cells]) H ?_)))
      clear H;intro gj W H
      refine ⟨_,fun _ h=>h,H.sb,?_⟩
      refine tR U (fun W H=>b_xtx U U U) (tf U (esk (txC (some ⟨gj,0,none⟩) 1 1 (some ⟨gp,0,none⟩) 1 1 0) U U U ts47 U U H (by decide) U ?_))
      clear H;intro W H
      refine ⟨_,fun _ h=>h,H.sb,?_⟩
      refine t_nil (kn (n_then ?_))
      refine ⟨_,_,U,?_,?_,⟨gu,gj,gp,gw,gm,U,H.pm⟩⟩
      ·with_reducible repeat first|exact .refl|refine .f ?_ ?_ ?_;kernel_rfl;kernel_rfl|refine .u ?_ ?_;kernel_rfl
      ·refine ⟨?_,trivial⟩
       ·exact U
     exact t_none
    refine t_each ?_ ?_
    ·skip
     refine tf U (ebs (xs:=[.tmp 23]) (vals:=[.agg (outC 1 none 0 0).toArray]) (vs:=(outC 1 none 0 0)) U U U U tu45 ts41 ty41 U (by simp [agg_cells,outC]) (by simp [agg_cells]) H ?_)
     clear H;intro gp W H
     refine ⟨_,fun _ h=>h,H.sb,?_⟩
     refine t_each ?_ ?_
     ·skip
      refine tf U (eI Tryz.func25 U U (idTP _ (Ex.rt (S:=fun _=>True) (H.blk (g:=gi)) (H.blk (g:=go)) (H.blk (g:=gs)) trivial trivial trivial) (H.gat hG) (H.gl hB)) H ?_)
      clear H;intro W H
      refine ⟨_,fun _ h=>h,H.sb,?_⟩
      refine tR U (fun W H=>b_xpt Tx.len_dig U U) (tf U (ebs (xs:=[.tmp 18,.tmp 19]) (vals:=[.slice (some ⟨gm,0,none⟩) 16 16,.slice (some ⟨gx,0,none⟩) 32 32]) (vs:=[.slice (some ⟨gm,0,none⟩) 16 16,.slice (some ⟨gx,0,none⟩) 32 32]) U U U U tu66 ts23 ty23 U U U H ?_))
      clear H;intro gw W H
      refine ⟨_,fun _ h=>h,H.sb,?_⟩
      refine tR U (fun W H=>b_xin U U U) (tf U (ebs (xs:=[.tmp 21]) (vals:=[.agg (inC Ex.pt (some ⟨gw,0,none⟩) 2 2).toArray]) (vs:=(inC Ex.pt (some ⟨gw,0,none⟩) 2 2)) U U U U tu44 ts71 ty71 U (by simp [agg_cells,len_in Ex.len_pt]) (by simp [agg_cells]) H ?_))
      clear H;intro gj W H
      refine ⟨_,fun _ h=>h,H.sb,?_⟩
      refine tR U (fun W H=>b_xtx U U U) (tf U (esk (txC (some ⟨gj,0,none⟩) 1 1 (some ⟨gp,0,none⟩) 1 1 0) U U U ts47 U U H (by decide) U ?_))
      clear H;intro W H
      refine ⟨_,fun _ h=>h,H.sb,?_⟩
      refine t_nil (kn (n_then ?_))
      refine ⟨_,_,U,?_,?_,⟨gu,gj,gp,gw,gm,U,H.pm⟩⟩
      ·with_reducible repeat first|exact .refl|refine .f ?_ ?_ ?_;kernel_rfl;kernel_rfl|refine .u ?_ ?_;kernel_rfl
      ·refine ⟨?_,trivial⟩
       ·exact U
     refine t_each ?_ ?_
     ·skip
      refine tf U (ebs (xs:=[.tmp 18,.tmp 19]) (vals:=[.slice (some ⟨gm,0,none⟩) 16 16,.slice (some ⟨gx,0,none⟩) 32 32]) (vs:=[.slice (some ⟨gm,0,none⟩) 16 16,.slice (some ⟨gx,0,none⟩) 32 32]) U U U U tu66 ts23 ty23 U U U H ?_)
      clear H;intro gw W H
      refine ⟨_,fun _ h=>h,H.sb,?_⟩
      refine tf U (eI Tryz.func25 U U (idTP _ (Ex.rt (S:=fun _=>True) (H.blk (g:=gi)) (H.blk (g:=go)) (H.blk (g:=gs)) trivial trivial trivial) (H.gat hG) (H.gl hB)) H ?_)
      clear H;intro W H
      refine ⟨_,fun _ h=>h,H.sb,?_⟩
      refine tR U (fun W H=>b_xpt Tx.len_dig U U) (tR U (fun W H=>b_xin U U U) (tf U (ebs (xs:=[.tmp 21]) (vals:=[.agg (inC Ex.pt (some ⟨gw,0,none⟩) 2 2).toArray]) (vs:=(inC Ex.pt (some ⟨gw,0,none⟩) 2 2)) U U U U tu44 ts71 ty71 U (by simp [agg_cells,len_in Ex.len_pt]) (by simp [agg_cells]) H ?_)))
      clear H;intro gj W H
      refine ⟨_,fun _ h=>h,H.sb,?_⟩
      refine tR U (fun W H=>b_xtx U U U) (tf U (esk (txC (some ⟨gj,0,none⟩) 1 1 (some ⟨gp,0,none⟩) 1 1 0) U U U ts47 U U H (by decide) U ?_))
      clear H;intro W H
      refine ⟨_,fun _ h=>h,H.sb,?_⟩
      refine t_nil (kn (n_then ?_))
      refine ⟨_,_,U,?_,?_,⟨gu,gj,gp,gw,gm,U,H.pm⟩⟩
      ·with_reducible repeat first|exact .refl|refine .f ?_ ?_ ?_;kernel_rfl;kernel_rfl|refine .u ?_ ?_;kernel_rfl
      ·refine ⟨?_,trivial⟩
       ·exact U
     exact t_none
    exact t_none
   refine t_each ?_ ?_
   ·skip
    refine tf U (ebs (xs:=[.tmp 23]) (vals:=[.agg (outC 1 none 0 0).toArray]) (vs:=(outC 1 none 0 0)) U U U U tu45 ts41 ty41 U (by simp [agg_cells,outC]) (by simp [agg_cells]) H ?_)
    clear H;intro gp W H
    refine ⟨_,fun _ h=>h,H.sb,?_⟩
    refine t_each ?_ ?_
    ·skip
     refine tf U (eI Tryz.func25 U U (idTP _ (Ex.rt (S:=fun _=>True) (H.blk (g:=gi)) (H.blk (g:=go)) (H.blk (g:=gs)) trivial trivial trivial) (H.gat hG) (H.gl hB)) H ?_)
     clear H;intro W H
     refine ⟨_,fun _ h=>h,H.sb,?_⟩
     refine tR U (fun W H=>b_xpt Tx.len_dig U U) (tf U (e_mks (wn U) U U U U (m:=16) U (by decide) tu23 tz5 tx5 H ?_))
     clear H;intro gm W H
     refine ⟨_,fun _ h=>h,H.sb,?_⟩
     refine tf U (ebs (xs:=[.tmp 18,.tmp 19]) (vals:=[.slice (some ⟨gm,0,none⟩) 16 16,.slice (some ⟨gx,0,none⟩) 32 32]) (vs:=[.slice (some ⟨gm,0,none⟩) 16 16,.slice (some ⟨gx,0,none⟩) 32 32]) U U U U tu66 ts23 ty23 U U U H ?_)
     clear H;intro gw W H
     refine ⟨_,fun _ h=>h,H.sb,?_⟩
     refine tR U (fun W H=>b_xin U U U) (tf U (ebs (xs:=[.tmp 21]) (vals:=[.agg (inC Ex.pt (some ⟨gw,0,none⟩) 2 2).toArray]) (vs:=(inC Ex.pt (some ⟨gw,0,none⟩) 2 2)) U U U U tu44 ts71 ty71 U (by simp [agg_cells,len_in Ex.len_pt]) (by simp [agg_cells]) H ?_))
     clear H;intro gj W H
     refine ⟨_,fun _ h=>h,H.sb,?_⟩
     refine tR U (fun W H=>b_xtx U U U) (tf U (esk (txC (some ⟨gj,0,none⟩) 1 1 (some ⟨gp,0,none⟩) 1 1 0) U U U ts47 U U H (by decide) U ?_))
     clear H;intro W H
     refine ⟨_,fun _ h=>h,H.sb,?_⟩
     refine t_nil (kn (n_then ?_))
     refine ⟨_,_,U,?_,?_,⟨gu,gj,gp,gw,gm,U,H.pm⟩⟩
     ·with_reducible repeat first|exact .refl|refine .f ?_ ?_ ?_;kernel_rfl;kernel_rfl|refine .u ?_ ?_;kernel_rfl
     ·refine ⟨?_,trivial⟩
      ·exact U
    refine t_each ?_ ?_
    ·skip
     refine tf U (e_mks (wn U) U U U U (m:=16) U (by decide) tu23 tz5 tx5 H ?_)
     clear H;intro gm W H
     refine ⟨_,fun _ h=>h,H.sb,?_⟩
     refine t_each ?_ ?_
     ·skip
      refine tf U (eI Tryz.func25 U U (idTP _ (Ex.rt (S:=fun _=>True) (H.blk (g:=gi)) (H.blk (g:=go)) (H.blk (g:=gs)) trivial trivial trivial) (H.gat hG) (H.gl hB)) H ?_)
      clear H;intro W H
      refine ⟨_,fun _ h=>h,H.sb,?_⟩
      refine tR U (fun W H=>b_xpt Tx.len_dig U U) (tf U (ebs (xs:=[.tmp 18,.tmp 19]) (vals:=[.slice (some ⟨gm,0,none⟩) 16 16,.slice (some ⟨gx,0,none⟩) 32 32]) (vs:=[.slice (some ⟨gm,0,none⟩) 16 16,.slice (some ⟨gx,0,none⟩) 32 32]) U U U U tu66 ts23 ty23 U U U H ?_))
      clear H;intro gw W H
      refine ⟨_,fun _ h=>h,H.sb,?_⟩
      refine tR U (fun W H=>b_xin U U U) (tf U (ebs (xs:=[.tmp 21]) (vals:=[.agg (inC Ex.pt (some ⟨gw,0,none⟩) 2 2).toArray]) (vs:=(inC Ex.pt (some ⟨gw,0,none⟩) 2 2)) U U U U tu44 ts71 ty71 U (by simp [agg_cells,len_in Ex.len_pt]) (by simp [agg_cells]) H ?_))
      clear H;intro gj W H
      refine ⟨_,fun _ h=>h,H.sb,?_⟩
      refine tR U (fun W H=>b_xtx U U U) (tf U (esk (txC (some ⟨gj,0,none⟩) 1 1 (some ⟨gp,0,none⟩) 1 1 0) U U U ts47 U U H (by decide) U ?_))
      clear H;intro W H
      refine ⟨_,fun _ h=>h,H.sb,?_⟩
      refine t_nil (kn (n_then ?_))
      refine ⟨_,_,U,?_,?_,⟨gu,gj,gp,gw,gm,U,H.pm⟩⟩
      ·with_reducible repeat first|exact .refl|refine .f ?_ ?_ ?_;kernel_rfl;kernel_rfl|refine .u ?_ ?_;kernel_rfl
      ·refine ⟨?_,trivial⟩
       ·exact U
     refine t_each ?_ ?_
     ·skip
      refine tf U (ebs (xs:=[.tmp 18,.tmp 19]) (vals:=[.slice (some ⟨gm,0,none⟩) 16 16,.slice (some ⟨gx,0,none⟩) 32 32]) (vs:=[.slice (some ⟨gm,0,none⟩) 16 16,.slice (some ⟨gx,0,none⟩) 32 32]) U U U U tu66 ts23 ty23 U U U H ?_)
      clear H;intro gw W H
      refine ⟨_,fun _ h=>h,H.sb,?_⟩
      refine tf U (eI Tryz.func25 U U (idTP _ (Ex.rt (S:=fun _=>True) (H.blk (g:=gi)) (H.blk (g:=go)) (H.blk (g:=gs)) trivial trivial trivial) (H.gat hG) (H.gl hB)) H ?_)
      clear H;intro W H
      refine ⟨_,fun _ h=>h,H.sb,?_⟩
      refine tR U (fun W H=>b_xpt Tx.len_dig U U) (tR U (fun W H=>b_xin U U U) (tf U (ebs (xs:=[.tmp 21]) (vals:=[.agg (inC Ex.pt (some ⟨gw,0,none⟩) 2 2).toArray]) (vs:=(inC Ex.pt (some ⟨gw,0,none⟩) 2 2)) U U U U tu44 ts71 ty71 U (by simp [agg_cells,len_in Ex.len_pt]) (by simp [agg_cells]) H ?_)))
      clear H;intro gj W H
      refine ⟨_,fun _ h=>h,H.sb,?_⟩
      refine tR U (fun W H=>b_xtx U U U) (tf U (esk (txC (some ⟨gj,0,none⟩) 1 1 (some ⟨gp,0,none⟩) 1 1 0) U U U ts47 U U H (by decide) U ?_))
      clear H;intro W H
      refine ⟨_,fun _ h=>h,H.sb,?_⟩
      refine t_nil (kn (n_then ?_))
      refine ⟨_,_,U,?_,?_,⟨gu,gj,gp,gw,gm,U,H.pm⟩⟩
      ·with_reducible repeat first|exact .refl|refine .f ?_ ?_ ?_;kernel_rfl;kernel_rfl|refine .u ?_ ?_;kernel_rfl
      ·refine ⟨?_,trivial⟩
       ·exact U
     exact t_none
    exact t_none
   exact t_none
  exact t_none
 clear H;obtain ⟨gu,gj,gp,gw,gm,rfl,H⟩:=hJ
 refine kQ (k_cut 26 [0] (fun sl W=>∃ga:Nat,∃gb:Nat,∃gc:Nat,sl=[(0,.slice (some ⟨gc,0,none⟩) 3 3)]∧St nT w W [Fact.blk gc (bC zHd none 0 0++(bC zHd (some ⟨ga,0,none⟩) 1 1++bC zHd (some ⟨gb,0,none⟩) 1 1)) 76,Fact.blk ga (txC (some ⟨gi,0,none⟩) 1 1 (some ⟨go,0,none⟩) 2 2 0) 47,Fact.blk gb (txC (some ⟨gj,0,none⟩) 1 1 (some ⟨gp,0,none⟩) 1 1 0) 47,Fact.blk gu (txC (some ⟨gj,0,none⟩) 1 1 (some ⟨gp,0,none⟩) 1 1 0) 47,Fact.blk gj (inC Ex.pt (some ⟨gw,0,none⟩) 2 2) 71,Fact.blk gp (outC 1 none 0 0) 41,Fact.blk gw ([.slice (some ⟨gm,0,none⟩) 16 16,.slice (some ⟨gx,0,none⟩) 32 32]) 23,Fact.blk gm ((List.replicate 16 (0:UInt8)).map u8v) 5,Fact.blk gt (txC (some ⟨gi,0,none⟩) 1 1 (some ⟨go,0,none⟩) 2 2 0) 47,Fact.blk go (outC 1 none 0 0++outC 2 (some ⟨gs,0,none⟩) 2 2) 41,Fact.blk gs ([.int .u8 5,.int .u8 6]) 5,Fact.blk gi (inC Ex.p3 none 0 0) 71,Fact.blk gx (Ex.x.map u8v) 25,Fact.blk g2 (Ex.x.map u8v) 25,Fact.blk g1 (txC (some ⟨gi,0,none⟩) 1 1 (some ⟨go,0,none⟩) 2 2 0) 47]) ?_ (fun sl ρv W hJ=>?_))
 ·skip
  refine k_drawT (.rd 0 (.rd 1 (.rd 4 (.rd 8 (.rd 9 (.many 7 [2,5] fun j=>(bif Nat.beq j 2 then (.rd 3 (.ef 5 (.rd 6 (.ef 7 (.rd 10 (.ef 11 (.ef 12 .nil))))))) else (.rd 6 (.ef 2 (.rd 3 (.ef 7 (.rd 10 (.ef 11 (.ef 12 .nil)))))))))))))) [Fact.blk gu (txC (some ⟨gj,0,none⟩) 1 1 (some ⟨gp,0,none⟩) 1 1 0) 47,Fact.blk gj (inC Ex.pt (some ⟨gw,0,none⟩) 2 2) 71,Fact.blk gp (outC 1 none 0 0) 41,Fact.blk gw ([.slice (some ⟨gm,0,none⟩) 16 16,.slice (some ⟨gx,0,none⟩) 32 32]) 23,Fact.blk gm ((List.replicate 16 (0:UInt8)).map u8v) 5,Fact.blk gt (txC (some ⟨gi,0,none⟩) 1 1 (some ⟨go,0,none⟩) 2 2 0) 47,Fact.blk go (outC 1 none 0 0++outC 2 (some ⟨gs,0,none⟩) 2 2) 41,Fact.blk gs ([.int .u8 5,.int .u8 6]) 5,Fact.blk gi (inC Ex.p3 none 0 0) 71,Fact.blk gx (Ex.x.map u8v) 25] (by kernel_rfl) (by kernel_rfl) H (by repeat (first|exact .refl _|exact List.nil_sublist _|refine .cons_cons _ ?_|refine .cons _ ?_)) ?_
  clear H;intro W H
  refine tR U (fun W H=>dB (vs:=bC zHd none 0 0) U (by kernel_rfl)) ?_
  refine tR U (fun W H=>dM (g:=gt) (off:=0) U H (sa (a:=txC (some ⟨gi,0,none⟩) 1 1 (some ⟨go,0,none⟩) 2 2 0) (m:=3) U) U U U U ta47 ts47) (tR U (fun W H=>dM (g:=gu) (off:=0) U H (sa (a:=txC (some ⟨gj,0,none⟩) 1 1 (some ⟨gp,0,none⟩) 1 1 0) (m:=3) U) U U U U ta47 ts47) (tR U (fun W H=>dM (g:=gt) (off:=0) U H (sa (a:=txC (some ⟨gi,0,none⟩) 1 1 (some ⟨go,0,none⟩) 2 2 0) (m:=3) U) U U U U ta47 ts47) (tR U (fun W H=>dM (g:=gx) (off:=0) U H (sa (a:=(Ex.x.map u8v)) (by rw [List.length_map];exact Ex.len_x)) (by rw [List.length_map];exact Ex.len_x) U U U ta25 ts25) ?_)))
  refine t_each ?_ ?_
  ·skip
   refine tf U (ebs (xs:=[.tmp 27]) (vals:=[.agg (txC (some ⟨gi,0,none⟩) 1 1 (some ⟨go,0,none⟩) 2 2 0).toArray]) (vs:=(txC (some ⟨gi,0,none⟩) 1 1 (some ⟨go,0,none⟩) 2 2 0)) U U U U tu74 ts47 ty47 U (by simp [agg_cells,txC]) (by simp [agg_cells]) H ?_)
   clear H;intro ga W H
   refine ⟨_,fun _ h=>h,H.sb,?_⟩
   refine tR U (fun W H=>b_xbl U U) (tf U (ebs (xs:=[.tmp 30]) (vals:=[.agg (txC (some ⟨gj,0,none⟩) 1 1 (some ⟨gp,0,none⟩) 1 1 0).toArray]) (vs:=(txC (some ⟨gj,0,none⟩) 1 1 (some ⟨gp,0,none⟩) 1 1 0)) U U U U tu74 ts47 ty47 U (by simp [agg_cells,txC]) (by simp [agg_cells]) H ?_))
   clear H;intro gb W H
   refine ⟨_,fun _ h=>h,H.sb,?_⟩
   refine tR U (fun W H=>b_xbl U U) (tf U (ebs (xs:=[.tmp 26,.tmp 29,.tmp 32]) (vals:=[.agg (bC zHd none 0 0).toArray,.agg (bC zHd (some ⟨ga,0,none⟩) 1 1).toArray,.agg (bC zHd (some ⟨gb,0,none⟩) 1 1).toArray]) (vs:=(bC zHd none 0 0++(bC zHd (some ⟨ga,0,none⟩) 1 1++bC zHd (some ⟨gb,0,none⟩) 1 1))) U U U U tu22 ts76 ty76 U (by simp [agg_cells,lB zHd_ok]) (by simp [agg_cells]) H ?_))
   clear H;intro gc W H
   refine ⟨_,fun _ h=>h,H.sb,?_⟩
   refine tR U (fun W H=>as_s U U) (tf U (esk (txC (some ⟨gi,0,none⟩) 1 1 (some ⟨go,0,none⟩) 2 2 0) U U U ts47 U U H (by decide) U ?_))
   clear H;intro W H
   refine ⟨_,fun _ h=>h,H.sb,?_⟩
   refine tf U (esk (Ex.x.map u8v) U U U ts25 (by rw [List.length_map];exact Ex.len_x) (all_u8L _) H (by decide) (spl_all (by rw [List.length_map,List.length_replicate];exact Ex.len_x)) ?_)
   clear H;intro W H
   refine ⟨_,fun _ h=>h,H.sb,?_⟩
   refine t_nil (kn (n_then ?_))
   refine ⟨_,_,U,?_,?_,⟨ga,gb,gc,U,H.pm⟩⟩
   ·with_reducible repeat first|exact .refl|refine .f ?_ ?_ ?_;kernel_rfl;kernel_rfl|refine .u ?_ ?_;kernel_rfl
   ·refine ⟨?_,trivial⟩
    ·exact U
  refine t_each ?_ ?_
  ·skip
   refine tf U (ebs (xs:=[.tmp 30]) (vals:=[.agg (txC (some ⟨gj,0,none⟩) 1 1 (some ⟨gp,0,none⟩) 1 1 0).toArray]) (vs:=(txC (some ⟨gj,0,none⟩) 1 1 (some ⟨gp,0,none⟩) 1 1 0)) U U U U tu74 ts47 ty47 U (by simp [agg_cells,txC]) (by simp [agg_cells]) H ?_)
   clear H;intro gb W H
   refine ⟨_,fun _ h=>h,H.sb,?_⟩
   refine tR U (fun W H=>b_xbl U U) (tf U (ebs (xs:=[.tmp 27]) (vals:=[.agg (txC (some ⟨gi,0,none⟩) 1 1 (some ⟨go,0,none⟩) 2 2 0).toArray]) (vs:=(txC (some ⟨gi,0,none⟩) 1 1 (some ⟨go,0,none⟩) 2 2 0)) U U U U tu74 ts47 ty47 U (by simp [agg_cells,txC]) (by simp [agg_cells]) H ?_))
   clear H;intro ga W H
   refine ⟨_,fun _ h=>h,H.sb,?_⟩
   refine tR U (fun W H=>b_xbl U U) (tf U (ebs (xs:=[.tmp 26,.tmp 29,.tmp 32]) (vals:=[.agg (bC zHd none 0 0).toArray,.agg (bC zHd (some ⟨ga,0,none⟩) 1 1).toArray,.agg (bC zHd (some ⟨gb,0,none⟩) 1 1).toArray]) (vs:=(bC zHd none 0 0++(bC zHd (some ⟨ga,0,none⟩) 1 1++bC zHd (some ⟨gb,0,none⟩) 1 1))) U U U U tu22 ts76 ty76 U (by simp [agg_cells,lB zHd_ok]) (by simp [agg_cells]) H ?_))
   clear H;intro gc W H
   refine ⟨_,fun _ h=>h,H.sb,?_⟩
   refine tR U (fun W H=>as_s U U) (tf U (esk (txC (some ⟨gi,0,none⟩) 1 1 (some ⟨go,0,none⟩) 2 2 0) U U U ts47 U U H (by decide) U ?_))
   clear H;intro W H
   refine ⟨_,fun _ h=>h,H.sb,?_⟩
   refine tf U (esk (Ex.x.map u8v) U U U ts25 (by rw [List.length_map];exact Ex.len_x) (all_u8L _) H (by decide) (spl_all (by rw [List.length_map,List.length_replicate];exact Ex.len_x)) ?_)
   clear H;intro W H
   refine ⟨_,fun _ h=>h,H.sb,?_⟩
   refine t_nil (kn (n_then ?_))
   refine ⟨_,_,U,?_,?_,⟨ga,gb,gc,U,H.pm⟩⟩
   ·with_reducible repeat first|exact .refl|refine .f ?_ ?_ ?_;kernel_rfl;kernel_rfl|refine .u ?_ ?_;kernel_rfl
   ·refine ⟨?_,trivial⟩
    ·exact U
  exact t_none
 clear H;obtain ⟨ga,gb,gc,rfl,H⟩:=hJ
 refine kx ?_
 obtain ⟨hi,ho,hs,hx,hj,hp,hw,hm,ha,hb,hc⟩:(w.heap.size<=gi∧gi<W.heap.size)∧(w.heap.size<=go∧go<W.heap.size)∧(w.heap.size<=gs∧gs<W.heap.size)∧(w.heap.size<=gx∧gx<W.heap.size)∧(w.heap.size<=gj∧gj<W.heap.size)∧(w.heap.size<=gp∧gp<W.heap.size)∧(w.heap.size<=gw∧gw<W.heap.size)∧(w.heap.size<=gm∧gm<W.heap.size)∧(w.heap.size<=ga∧ga<W.heap.size)∧(w.heap.size<=gb∧gb<W.heap.size)∧(w.heap.size<=gc∧gc<W.heap.size) :=
  ⟨blk_new H,blk_new H,blk_new H,blk_new H,blk_new H,blk_new H,blk_new H,blk_new H,blk_new H,blk_new H,blk_new H⟩
 have ht:=Ex.rt (S:=fun g=>w.heap.size<=g∧g<W.heap.size) (H.blk (g:=gi)) (H.blk (g:=go)) (H.blk (g:=gs)) hi ho hs
 have hu:=Ex.ru (S:=fun g=>w.heap.size<=g∧g<W.heap.size) (H.blk (g:=gj)) (H.blk (g:=gp)) (H.blk (g:=gw)) (H.blk (g:=gm)) (H.blk (g:=gx)) hj hp hw hm hx
 refine q_cells3 (g:=g1) (g2:=g2) (c:=txC (some ⟨gi,0,none⟩) 1 1 (some ⟨go,0,none⟩) 2 2 0) (d:=Ex.x.map u8v) U H U U U ta47 ta25 ts47 ts25 ⟨_,U,_,gc,gi,go,U,H.under,⟨Ex.rp (H.blk (g:=ga)) (H.blk (g:=gb)) (H.blk (g:=gc)) ht hu U U ha hb hc,ht⟩,fun g hg=>hg⟩
end Go.Proofs.YtjjodibkmeefpaaGreatDoor
