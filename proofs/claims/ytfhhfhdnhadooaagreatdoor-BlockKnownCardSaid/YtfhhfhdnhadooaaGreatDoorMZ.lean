import Derived.Test.YtfhhfhdnhadooaaGreatDoorMY
import Derived.Test.YtfhhfhdnhadooaaGreatDoorMO
import Derived.Test.YtfhhfhdnhadooaaGreatDoorML
set_option linter.unusedVariables false
set_option linter.unusedSimpArgs false
set_option maxHeartbeats 4000000

namespace Go.Proofs.YtfhhfhdnhadooaaGreatDoor
open Go Go.RowKit
attribute [local irreducible] wpList

theorem St.gl {w W:World} {L:List Fact} (H:St nT w W L) (h:Old.Gl w):Old.Gl W:=h.below H.under (Nat.le_refl _)
theorem taggedB {S:Nat->Prop} {v:Value} {b:List UInt8} {s:ByteArray} (w:World) (hG:Old.Gl w) (hb:Bs w S v b) (hs:s.size<=1000000000) (hbl:b.length<=1000000000):Calls Tryz.prog 38 [.string s,v].toArray w (Ret (Is w (.agg ((Old.Bl.tagged s.data.toList b).map u8v).toArray))) :=
 Calls.mono (Old.tagged_any s v b w hb hs hbl hG) (fun e w' h=>by
  obtain ⟨h1,h2⟩:=h
  exact ⟨_,h1,U,h2⟩)
namespace Tx
def dig (s:ByteArray) (t:DTx):List UInt8:=if chk t=0 then Old.Bl.tagged s.data.toList (bareB t) else List.replicate 32 0
theorem len_dig {s:ByteArray} {t:DTx}:(dig s t).length=32:=by
 unfold dig
 split
 ·exact Old.Bl.len_tagged _ _
 ·exact List.length_replicate
def tTx:ByteArray:=⟨#[116,120]⟩
def tSign:ByteArray:=⟨#[115,105,103,110]⟩
end Tx

namespace Tx
theorem len_bare {t:DTx} (ht:Ok t):(bare t).length<=2547:=by
 unfold bare
 split
 ·rename_i h;exact len_bareB h ht
 ·simp
end Tx

theorem taggedT {S:Nat->Prop} {cs:List Value} {t:DTx} {s:ByteArray} (w:World) (ht:RTx w S cs t) (hG:Gat w 0 formsC) (hB:Old.Gl w) (hs:s.size<=1000):Calls Tryz.prog 79 [.string s,.agg cs.toArray].toArray w (Ret (Is w (.agg ((Tx.dig s t).map u8v).toArray))):=by
 obtain ⟨A,c,B,d,rfl,hI,hO,hk⟩:=tx_of ht
 have hok:=tx_ok ht
 refine kE (l:=[_,_]) Tryz.func79 U U ?_
 have H:=St.start nT w
 refine kR (sf (ebx (vs:=(txC A t.ins.length c B t.outs.length d t.lock)) U U H ?_))
 clear H;intro gm W H
 refine sf (eal (List.replicate 32 (u8v 0)) tz24 H ?_)
 clear H;intro go W H
 refine ln (kQ (kR (sR (dM (g:=gm) (off:=0) U H (sa (a:=txC A t.ins.length c B t.outs.length d t.lock) (m:=3) U) U U U U ta34 ts34) (sf (ecl Tryz.func84 U U (bareTP _ (keeps_Tx _ _ _ _ _ ht (fun g hg _=>H.fr.block g hg (fun h=>h))) (H.gat hG)) ?_)))))
 rintro _ W ⟨_,rfl,A1,c1,rfl,hc1,hd1,hn⟩
 replace H:=H.new hn
 clear hn
 refine sMt U (sEx U U (sEx U U (sAs U (sAi U (lkR (sMi U (sEq U U (ln (kC U (fun hc13=>?_) (fun hc13=>?_))))))))))
 ·have hne:Tx.chk t=0:=by simpa using hc13
  have e1:Tx.dig s t=Old.Bl.tagged s.data.toList (Tx.bare t):=by unfold Tx.dig Tx.bare;rw [if_pos hne,if_pos hne]
  have hlb:=Tx.len_bare hok
  refine kR (sR (mv_str U U) (sMs U (sf (eI Tryz.func38 U U (taggedB _ (H.gl hB) (H.rowbs (A:=A1) (l:=Tx.bare t) U) (by omega) (by omega)) H ?_))))
  clear H;intro W H
  refine sf (esk ((Old.Bl.tagged s.data.toList (Tx.bare t)).map u8v) U U U ts24 (by rw [List.length_map];exact Old.Bl.len_tagged _ _) (all_u8L _) H (by decide) (spl_all (by rw [List.length_map,List.length_replicate];exact Old.Bl.len_tagged _ _)) ?_)
  clear H;intro W H
  refine ln (kx ?_)
  rw [e1]
  exact q_retc U (c:=(Old.Bl.tagged s.data.toList (Tx.bare t)).map u8v) (g:=go) H U ta24 (by rw [List.length_map,Old.Bl.len_tagged];exact ts24) ⟨_,U,U,H.under⟩
 ·have hne:¬Tx.chk t=0:=by simpa using hc13
  have e1:Tx.dig s t=List.replicate 32 0:=by unfold Tx.dig;rw [if_neg hne]
  refine kS (kR (sR (dB (vs:=(List.replicate 32 (0:UInt8)).map u8v) U (by kernel_rfl)) ?_))
  refine sf (esk ((List.replicate 32 (0:UInt8)).map u8v) U U U ts24 (by simp) (all_u8L _) H (by decide) (spl_all (by simp)) ?_)
  clear H;intro W H
  refine ln (kx ?_)
  rw [e1]
  exact q_retc U (c:=(List.replicate 32 (0:UInt8)).map u8v) (g:=go) H U ta24 ts24 ⟨_,U,U,H.under⟩

theorem idTP {S:Nat->Prop} {cs:List Value} {t:DTx} (w:World) (ht:RTx w S cs t) (hG:Gat w 0 formsC) (hB:Old.Gl w):Calls Tryz.prog 35 [.agg cs.toArray].toArray w (Ret (Is w (.agg ((Tx.dig Tx.tTx t).map u8v).toArray))):=by
 obtain ⟨A,c,B,d,rfl,hI,hO,hk⟩:=tx_of ht
 have hok:=tx_ok ht
 refine kE (l:=[_]) Tryz.func35 U U ?_
 have H:=St.start nT w
 refine kR (sf (ebx (vs:=(txC A t.ins.length c B t.outs.length d t.lock)) U U H ?_))
 clear H;intro gm W H
 refine sf (eal (List.replicate 32 (u8v 0)) tz24 H ?_)
 clear H;intro go W H
 refine lkR (sR (dM (g:=gm) (off:=0) U H (sa (a:=txC A t.ins.length c B t.outs.length d t.lock) (m:=3) U) U U U U ta34 ts34) (sf (eI Tryz.func79 U U (taggedT (s:=Tx.tTx) _ (keeps_Tx _ _ _ _ _ ht (fun g hg _=>H.fr.block g hg (fun h=>h))) (H.gat hG) (H.gl hB) (by decide)) H ?_)))
 clear H;intro W H
 refine sf (esk ((Tx.dig Tx.tTx t).map u8v) U U U ts24 (by rw [List.length_map];exact Tx.len_dig) (all_u8L _) H (by decide) (spl_all (by rw [List.length_map,List.length_replicate];exact Tx.len_dig)) ?_)
 clear H;intro W H
 refine ln (kx ?_)
 exact q_retc U (c:=(Tx.dig Tx.tTx t).map u8v) (g:=go) H U ta24 (by rw [List.length_map,Tx.len_dig];exact ts24) ⟨_,U,U,H.under⟩


def RLO {α:Type} (e s:Nat) (R:Rep α):Rep (List α):=fun W S cs l=>RL s R W S cs l∧∃v xs,cs=[v]∧W.ownsRow 0 e s v l.length xs∧∀g,v.ownBlock=some g->S g
theorem own_lt {W:World} {e s n:Nat} {v:Value} {xs:List Value} {g:Nat} (h:W.ownsRow 0 e s v n xs) (hg:v.ownBlock=some g):g<W.heap.size:=by
 rcases h.2 with ⟨rfl,_⟩|⟨g',cap,cur,rfl,_,hh,_⟩
 ·cases hg
 ·obtain rfl:g'=g:=by simpa [Value.ownBlock] using hg
  exact (List.getElem?_eq_some_iff.1 (by simpa using hh)).1
instance repk_LO {α:Type} {e s:Nat} {R:Rep α} [h:RepK R]:RepK (RLO e s R):=⟨fun W W' S cs a h1 k=>by
 obtain ⟨h2,v,xs,e1,e2,e3⟩:=h1
 exact ⟨keeps_L h.keeps _ _ _ _ _ h2 k,v,xs,e1,ownsRow_keep e2 (fun g hg=>k g (own_lt e2 hg) (e3 g hg)),e3⟩,fun W S S' cs a h1 k=>by
 obtain ⟨h2,v,xs,e1,e2,e3⟩:=h1
 exact ⟨mono_L h.mono _ _ _ _ _ h2 k,v,xs,e1,e2,fun g hg=>k g (own_lt e2 hg) (e3 g hg)⟩⟩
theorem rlo_nil {α:Type} {e s:Nat} {R:Rep α} {W:World} {S:Nat->Prop}:RLO e s R W S [.slice none 0 0] []:=⟨rl_nil,_,[],rfl,⟨by simp,.inl ⟨rfl,rfl⟩⟩,fun g hg=>by cases hg⟩
theorem St.tolistO {α:Type} {R:Rep α} {T:Nat->Prop} {w0 W:World} {L:List Fact} {e s c:Nat} {A:Option Addr} {S:Nat->Prop} {xs:List Value} {l:List α} [h:RepK R] (H:St T w0 W (Fact.row e s (.slice A l.length c) l.length xs::Fact.els R s S xs l::L)):St T w0 W (Fact.rep (RLO e s R) (fun g=>(Value.slice A l.length c).ownBlock=some g∨S g) [.slice A l.length c] l::L):=by
 have h1:W.ownsRow 0 e s (.slice A l.length c) l.length xs:=H.holds _ (.head _)
 have h2:=H.tolist.holds _ (.head _)
 exact H.merge (F:=Fact.rep (RLO e s R) _ _ l) ⟨h2,_,xs,U,h1,fun g hg=>.inl hg⟩ (fun g hg=>hg)
def RInH (A0:Option Addr) (b:List UInt8):Rep DIn:=fun W S cs x=>∃c0 c1,cs=c0++c1∧RPoint W S c0 x.point∧RLO 41 1 (RBH A0 b) W S c1 x.wit
def ROutH (A0:Option Addr) (b:List UInt8):Rep DOut:=fun W S cs x=>∃c0 c1,cs=c0++c1∧RI W S c0 x.value∧RBH A0 b W S c1 x.script
instance repk_InH {A0:Option Addr} {b:List UInt8}:RepK (RInH A0 b):=⟨fun W W' S cs a h k=>by
 obtain ⟨c0,c1,h0,e0,e1⟩:=h
 exact ⟨c0,c1,h0,keeps_Point _ _ _ _ _ e0 k,repk_LO.keeps _ _ _ _ _ e1 k⟩,fun W S S' cs a h k=>by
 obtain ⟨c0,c1,h0,e0,e1⟩:=h
 exact ⟨c0,c1,h0,mono_Point _ _ _ _ _ e0 k,repk_LO.mono _ _ _ _ _ e1 k⟩⟩
instance repk_OutH {A0:Option Addr} {b:List UInt8}:RepK (ROutH A0 b):=⟨fun W W' S cs a h k=>by
 obtain ⟨c0,c1,h0,e0,e1⟩:=h
 exact ⟨c0,c1,h0,e0,e1⟩,fun W S S' cs a h k=>by
 obtain ⟨c0,c1,h0,e0,e1⟩:=h
 exact ⟨c0,c1,h0,e0,e1⟩⟩
theorem in_nil {A0:Option Addr} {b:List UInt8} {p:DPoint} {W:World} {S:Nat->Prop} (h:p.tx.length=32) (hn:I64 p.n):RInH A0 b W S (inC p none 0 0) ⟨p,[]⟩:=⟨_,_,rfl,point_rep h hn,rlo_nil⟩
theorem out_held {A0 B:Option Addr} {b s:List UInt8} {v:Int} {c:Nat} {W:World} {S:Nat->Prop} (hn:I64 v) (hH:HeldP A0 b.length b (.slice B s.length c) s):ROutH A0 b W S (outC v B s.length c) ⟨v,s⟩:=⟨_,_,rfl,⟨rfl,hn⟩,_,rfl,hH⟩
theorem d_iaP {P:Program} {o:Oper} {n:Nat} {ρ:Nat->Value} {W:World} {t e:TypeId} {x y:Operand} {k:IntKind} {a:Int} {g i m c q s:Nat} (ho:o.op=.indexAddr t x y) (hx:ev n ρ x=.slice (some ⟨g,i,none⟩) m c) (hy:ev n ρ y=.int k a) (ha:a=(q:Int)) (hq:q<m) (hu:P.underlying t=some (.slice e)) (hs:(P.info? e).map (·.size)=some s) :
  Runs P n ρ o W (.pointer (some ⟨g,i+q*s,none⟩)) W:=by
 subst ha
 cases hi:P.info? e with
 | none=>rw [hi] at hs;cases hs
 | some ie =>
  have hs':ie.size=s:=by simpa [hi] using hs
  unfold Runs execOp
  simp [ho,hx,hy,Instr.indexAt,asIntOf,run_underlying hu,sizeOf,typeInfo,hi,hs',hq,Addr.add_mid]

theorem getInF {A0:Option Addr} {c0 r:Nat} {b:List UInt8} {s:RS} (w:World) (hR:(RdYP 5 134 r A0 b.length c0 (·=b) s).p w) {q:Nat} (hq:Gat w q [.pointer (some ⟨r,0,none⟩)]) (hTq:¬(RdT r A0 b.length c0) q) (hok:Pk.Ok s) (hG:Gat w 0 formsC) (h0:¬(RdT r A0 b.length c0) 0):Calls Tryz.prog 123 [.pointer (some ⟨q,0,none⟩)].toArray w (Ret (fun v' w'=>v'=.agg (inC (Tx.rIn s).1.point none 0 0).toArray∧(RdYP 5 134 r A0 b.length c0 (·=b) (Tx.rIn s).2).p w'∧Fr (RdT r A0 b.length c0) w w')):=by
 have H0:=St.begin (f:=RdYP 5 134 r A0 b.length c0 (·=b) s) hR (RdB.lt hR)
 refine kE (l:=[_]) Tryz.func123 U U ?_
 have H:=H0
 have hp:(Tx.rIn s).1.point.tx.length=32:=Pk.len_rBytes
 have hl32:((Pk.rBytes 32 s).1.map u8v).length=32:=by rw [List.length_map];exact hp
 refine kR (sf (eal (inC zPt none 0 0) tzIn H ?_))
 clear H;intro go W H
 refine ln (kQ (k_draw [(0,true),(2,true),(1,false),(3,false),(4,true),(5,true),(6,false)] [] (by kernel_rfl) (by kernel_rfl) H (List.nil_sublist _) ?_))
 clear H;intro W H
 refine cR U (fun W H=>d_ldG U ((H.gatT hq hTq)) U ta89 U) (cR U (fun W H=>d_ldG U ((H.gatT hq hTq)) U ta89 U) (cf U (ecl Tryz.func60 U U (prgHash _ (H.get (f:=RdYP 5 134 r A0 b.length c0 (·=b) s)) hok) ?_)))
 rintro _ W ⟨rfl,hp_,hf_⟩
 replace H:=H.mut (f:=RdYP 5 134 r A0 b.length c0 (·=b) s) (f':=RdYP 5 134 r A0 b.length c0 (·=b) (Pk.rBytes 32 s).2) hf_ hp_ (fun _ h=>h)
 clear hp_ hf_
 refine ⟨H.sb,?_⟩
 refine cf U (ecl Tryz.func61 U U (prgInt _ (H.get (f:=RdYP 5 134 r A0 b.length c0 (·=b) (Pk.rBytes 32 s).2)) (Pk.ok_next hok) (H.gatT hG h0) h0) ?_)
 rintro _ W ⟨rfl,hp_,hf_⟩
 replace H:=H.mut (f:=RdYP 5 134 r A0 b.length c0 (·=b) (Pk.rBytes 32 s).2) (f':=RdYP 5 134 r A0 b.length c0 (·=b) (Pk.rInt (Pk.rBytes 32 s).2).2) hf_ hp_ (fun _ h=>h)
 clear hp_ hf_
 refine ⟨H.sb,?_⟩
 refine cR U (fun W H=>dB (vs:=pointC (Tx.rIn s).1.point) U (built_fields (places:=[(0,32),(32,1)]) tz61 (by kernel_rfl) (by kernel_rfl) (fN (vs:=(Pk.rBytes 32 s).1.map u8v) (.agg ((Pk.rBytes 32 s).1.map u8v).toArray) U U U hl32 (Nat.le_of_ble_eq_true U) (fN (vs:=[.int .i64 ((Pk.rInt (Pk.rBytes 32 s).2).1:Int)]) (.int .i64 ((Pk.rInt (Pk.rBytes 32 s).2).1:Int)) U (by first|(simp [hl32];done)|(simp [hl32];omega)) U U (Nat.le_of_ble_eq_true U) (fill_end (by rw [List.nil_append];exact List.append_nil _)))))) ?_
 refine cR U (fun W H=>dB (vs:=inC (Tx.rIn s).1.point none 0 0) U (built_fields (places:=[(0,33),(33,1)]) tz64 (by kernel_rfl) (by kernel_rfl) (fN (vs:=pointC (Tx.rIn s).1.point) (.agg (pointC (Tx.rIn s).1.point).toArray) U U U (len_point hp) (Nat.le_of_ble_eq_true U) (fill_end (by rfl))))) ?_
 refine cf U (esk (inC (Tx.rIn s).1.point none 0 0) U U U ts64 (len_in hp) in_one H (by rw [len_in (p:=zPt) U];decide) (spl_all ((len_in hp).trans (len_in (p:=zPt) U).symm)) ?_)
 clear H;intro W H
 refine ⟨H.sb,?_⟩
 refine c_nil (kx ?_)
 exact q_retc U (c:=inC (Tx.rIn s).1.point none 0 0) (g:=go) H U ta64 (by rw [len_in hp];exact ts64) ⟨_,U,U,H.get (f:=RdYP 5 134 r A0 b.length c0 (·=b) (Pk.rInt (Pk.rBytes 32 s).2).2),H.fr⟩

theorem getOutF {A0:Option Addr} {c0 r:Nat} {b:List UInt8} {s:RS} (w:World) (hR:(RdYP 5 134 r A0 b.length c0 (·=b) s).p w) {q:Nat} (hq:Gat w q [.pointer (some ⟨r,0,none⟩)]) (hTq:¬(RdT r A0 b.length c0) q) (hok:Pk.Ok s) (hG:Gat w 0 formsC) (h0:¬(RdT r A0 b.length c0) 0):Calls Tryz.prog 125 [.pointer (some ⟨q,0,none⟩)].toArray w (Ret (fun v' w'=>(∃B d,v'=.agg (outC (Tx.rOut s).1.value B (Tx.rOut s).1.script.length d).toArray∧HeldP A0 b.length b (.slice B (Tx.rOut s).1.script.length d) (Tx.rOut s).1.script)∧(RdYP 5 134 r A0 b.length c0 (·=b) (Tx.rOut s).2).p w'∧Fr (RdT r A0 b.length c0) w w')):=by
 have H0:=St.begin (f:=RdYP 5 134 r A0 b.length c0 (·=b) s) hR (RdB.lt hR)
 refine kE (l:=[_]) Tryz.func125 U U ?_
 have H:=H0
 refine kR (sf (eal [.int .i64 0,.slice none 0 0] tz66 H ?_))
 clear H;intro go W H
 refine ln (kQ (k_draw [(0,true),(2,true),(1,false),(3,false),(4,true),(5,false)] [] (by kernel_rfl) (by kernel_rfl) H (List.nil_sublist _) ?_))
 clear H;intro W H
 refine cR U (fun W H=>d_ldG U ((H.gatT hq hTq)) U ta89 U) (cR U (fun W H=>d_ldG U ((H.gatT hq hTq)) U ta89 U) (cf U (ecl Tryz.func61 U U (prgInt _ (H.get (f:=RdYP 5 134 r A0 b.length c0 (·=b) s)) hok (H.gatT hG h0) h0) ?_)))
 rintro _ W ⟨rfl,hp_,hf_⟩
 replace H:=H.mut (f:=RdYP 5 134 r A0 b.length c0 (·=b) s) (f':=RdYP 5 134 r A0 b.length c0 (·=b) (Pk.rInt s).2) hf_ hp_ (fun _ h=>h)
 clear hp_ hf_
 refine ⟨H.sb,?_⟩
 refine cf U (ecl Tryz.func63 U U (prgBlob (m:=256) _ (H.get (f:=RdYP 5 134 r A0 b.length c0 (·=b) (Pk.rInt s).2)) (Pk.ok_rInt hok) (H.gatT hG h0) h0) ?_)
 rintro _ W ⟨hp_,hf_⟩
 obtain ⟨B1,d1,rfl⟩:=RdB.form hp_
 have hH:=held_of hp_
 replace H:=H.mut (f:=RdYP 5 134 r A0 b.length c0 (·=b) (Pk.rInt s).2) (f':=RdYP 5 134 r A0 b.length c0 (·=b) (Pk.rB 256 (Pk.rInt s).2).2) hf_ (RdB.toP hp_) (fun _ h=>h)
 clear hp_ hf_
 refine ⟨H.sb,?_⟩
 refine cR U (fun W H=>dB (vs:=outC (Tx.rOut s).1.value B1 (Tx.rOut s).1.script.length d1) U (built_fields (places:=[(0,1),(1,1)]) tz66 (by kernel_rfl) (by kernel_rfl) (fN (vs:=[.int .i64 ((Pk.rInt s).1:Int)]) (.int .i64 ((Pk.rInt s).1:Int)) U U U U (Nat.le_of_ble_eq_true U) (fN (vs:=[.slice B1 (Tx.rOut s).1.script.length d1]) (.slice B1 (Tx.rOut s).1.script.length d1) U (by rfl) U U (Nat.le_of_ble_eq_true U) (fill_end (by rfl)))))) ?_
 refine cf U (e_sto (wn U) U U U U U ts66 U H U ?_)
 clear H;intro W H
 refine ⟨H.sb,?_⟩
 refine c_nil (kx ?_)
 exact q_retc U (c:=outC (Tx.rOut s).1.value B1 (Tx.rOut s).1.script.length d1) (g:=go) H U ta66 ts66 ⟨_,U,⟨B1,d1,U,hH⟩,H.get (f:=RdYP 5 134 r A0 b.length c0 (·=b) (Pk.rB 256 (Pk.rInt s).2).2),H.fr⟩

theorem getItemF {A0:Option Addr} {c0 r:Nat} {b:List UInt8} {s:RS} (w:World) (hR:(RdYP 5 134 r A0 b.length c0 (·=b) s).p w) {q:Nat} (hq:Gat w q [.pointer (some ⟨r,0,none⟩)]) (hTq:¬(RdT r A0 b.length c0) q) (hok:Pk.Ok s) (hG:Gat w 0 formsC) (h0:¬(RdT r A0 b.length c0) 0):Calls Tryz.prog 127 [.pointer (some ⟨q,0,none⟩)].toArray w (Ret (fun v' w'=>(∃B d,v'=.slice B (Pk.rB 64 s).1.length d∧HeldP A0 b.length b (.slice B (Pk.rB 64 s).1.length d) (Pk.rB 64 s).1)∧(RdYP 5 134 r A0 b.length c0 (·=b) (Pk.rB 64 s).2).p w'∧Fr (RdT r A0 b.length c0) w w')):=by
 have H0:=St.begin (f:=RdYP 5 134 r A0 b.length c0 (·=b) s) hR (RdB.lt hR)
 refine kE (l:=[_]) Tryz.func127 U U ?_
 have H:=H0
 refine kR (sAs U (lkR (sR (d_ldG U ((H.gatT hq hTq)) U ta89 U) (sf (ecl Tryz.func63 U U (prgBlob (m:=64) _ (H.get (f:=RdYP 5 134 r A0 b.length c0 (·=b) s)) hok (H.gatT hG h0) h0) ?_)))))
 rintro _ W ⟨hp_,hf_⟩
 obtain ⟨B1,d1,rfl⟩:=RdB.form hp_
 have hH:=held_of hp_
 replace H:=H.mut (f:=RdYP 5 134 r A0 b.length c0 (·=b) s) (f':=RdYP 5 134 r A0 b.length c0 (·=b) (Pk.rB 64 s).2) hf_ (RdB.toP hp_) (fun _ h=>h)
 clear hp_ hf_
 refine sAs U (ln (kx ?_))
 exact qr (v:=.slice _ _ _) U U ⟨_,U,⟨B1,d1,U,hH⟩,H.get (f:=RdYP 5 134 r A0 b.length c0 (·=b) (Pk.rB 64 s).2),H.fr⟩

theorem listIn {A0:Option Addr} {c0 r:Nat} {b:List UInt8} {s:RS} (w:World) (hR:(RdYP 5 134 r A0 b.length c0 (·=b) s).p w) {q:Nat} (hq:Gat w q [.pointer (some ⟨r,0,none⟩)]) (hTq:¬(RdT r A0 b.length c0) q) (hok:Pk.Ok s) (hG:Gat w 0 formsC) (h0:¬(RdT r A0 b.length c0) 0):Calls Tryz.prog 122 [.pointer (some ⟨r,0,none⟩),.int .i64 8,.func (.func 123) #[] [.pointer (some ⟨q,0,none⟩)].toArray].toArray w (Ret (fun v' w'=>∃A c xs S2,v'=.slice A (rList 8 Tx.rIn s).1.length c∧(rList 8 Tx.rIn s).1.length<=c∧c<=9223372036854775807∧St (RdT r A0 b.length c0) w w' [Fact.row 64 34 (.slice A (rList 8 Tx.rIn s).1.length c) (rList 8 Tx.rIn s).1.length xs,Fact.els (RInH A0 b) 34 S2 xs (rList 8 Tx.rIn s).1,RdYP 5 134 r A0 b.length c0 (·=b) (rList 8 Tx.rIn s).2])):=by
 have H0:=St.begin (f:=RdYP 5 134 r A0 b.length c0 (·=b) s) hR (RdB.lt hR)
 refine kE (l:=[_,_,_]) Tryz.func122 U U ?_
 have H:=H0
 have hcb:=count_bound (m:=8) (s:=s) (by decide)
 have hlr:(rList 8 Tx.rIn s).1.length=(Pk.rC 8 s).1:=len_rMany _ _
 refine kR (sAs U (ln (kQ (kR (sMp U (sMi U (sf (ecl Tryz.func62 U U (prgCount (m:=8) _ (H.get (f:=RdYP 5 134 r A0 b.length c0 (·=b) s)) hok (H.gatT hG h0) h0) ?_))))))))
 rintro _ W ⟨rfl,hp_,hf_⟩
 replace H:=H.mut (f:=RdYP 5 134 r A0 b.length c0 (·=b) s) (f':=RdYP 5 134 r A0 b.length c0 (·=b) (Pk.rC 8 s).2) hf_ hp_ (fun _ h=>h)
 clear hp_ hf_
 refine sMi U (ln (kb (kL 10 [6] (fun mm sl W=>∃i:Nat,∃A2:Option Addr,∃c2:Nat,∃ys:List Value,∃S2:Nat->Prop,(Pk.rC 8 s).1 - i=mm∧sl=[(10,.int .i64 (i:Int)),(6,.slice A2 i c2)]∧(i<=(Pk.rC 8 s).1)∧(i<=c2∧c2<=9223372036854775807)∧St (RdT r A0 b.length c0) w W [Fact.row 64 34 (.slice A2 i c2) i ys,Fact.els (RInH A0 b) 34 S2 ys (rMany Tx.rIn i (Pk.rC 8 s).2).1,RdYP 5 134 r A0 b.length c0 (·=b) (rMany Tx.rIn i (Pk.rC 8 s).2).2]) _ _ ⟨0,none,0,[],(fun _=>False),U,U,Nat.zero_le _,⟨Nat.le_refl _,by omega⟩,((H.els0 (RInH A0 b) 34).nilrow 64 34)⟩ ⟨U,U,trivial⟩ (fun mm sl ρv W hJ=>?_))))
 clear H;obtain ⟨i,A2,c2,ys,S2,rfl,rfl,hi,hd,H⟩:=hJ
 refine ko (kR (sLt U U (ln (kQ (kC U (fun hc11=>?_) (fun hc11=>?_))))))
 ·replace hc11:=of_decide_eq_true hc11
  have hlt:i<(Pk.rC 8 s).1:=by omega
  have hoki:=(sane_many Tx.sane_in i).2 _ (Pk.ok_rCount (m:=8) hok)
  refine kS (kQ (kb (kr (sMs U (sMf U (sf (e_callv (wn U) U U U Tryz.func123 U U U (getInF _ (H.get (f:=RdYP 5 134 r A0 b.length c0 (·=b) (rMany Tx.rIn i (Pk.rC 8 s).2).2)) (H.gatT hq hTq) hTq hoki (H.gatT hG h0) h0) ?_)))))))
  rintro _ W ⟨rfl,hp_,hf_⟩
  replace H:=H.mut (f:=RdYP 5 134 r A0 b.length c0 (·=b) (rMany Tx.rIn i (Pk.rC 8 s).2).2) (f':=RdYP 5 134 r A0 b.length c0 (·=b) (Tx.rIn (rMany Tx.rIn i (Pk.rC 8 s).2).2).2) hf_ hp_ (fun _ h=>h)
  clear hp_ hf_
  have hp:(Tx.rIn (rMany Tx.rIn i (Pk.rC 8 s).2).2).1.point.tx.length=32:=Pk.len_rBytes
  replace H:=H.flat (R:=RInH A0 b) (cs:=inC (Tx.rIn (rMany Tx.rIn i (Pk.rC 8 s).2).2).1.point none 0 0) (a:=(Tx.rIn (rMany Tx.rIn i (Pk.rC 8 s).2).2).1) (in_nil hp Tx.int_ok)
  refine sf (ebs (xs:=[.tmp 14]) (vals:=[.agg (inC (Tx.rIn (rMany Tx.rIn i (Pk.rC 8 s).2).2).1.point none 0 0).toArray]) (vs:=(inC (Tx.rIn (rMany Tx.rIn i (Pk.rC 8 s).2).2).1.point none 0 0)) U U U U tu31 ts64 ty64 U (by simp [agg_cells,len_in hp]) (by simp [agg_cells]) H ?_)
  clear H;intro g3_3 W H
  refine sf (eap tu31 tx64 U U U H (rd_blk (m:=1) H.blk (len_in hp)) (in_one) (by omega) U ?_)
  clear H;intro A1 c1 W hc1 hd1 H
  replace H:=H.drop
  refine sAs U (ln ?_)
  replace H:=(St.elsnoc (H.perm (.cons _ (.swap _ _ _))) (len_in hp)).perm (.swap _ _ _)
  refine kn (zE (kr (sAd U U (by omega) (sMi U (ln (kn (kY ?_)))))))
  refine ⟨_,_,_,?_,U,?_,?_,⟨i+1,A1,c1,_,_,U,U,by omega,⟨hc1,hd1⟩,H⟩⟩
  ·omega
  ·with_reducible repeat first|exact .refl|refine .f ?_ ?_ ?_;kernel_rfl;kernel_rfl|refine .u ?_ ?_;kernel_rfl
  ·refine ⟨?_,?_,trivial⟩
   ·exact vi (by omega)
   ·exact U
 ·replace hc11:=of_decide_eq_false hc11
  refine ke (xt (xt ?_))
  refine xH (kQ ?_)
  obtain rfl:i=(Pk.rC 8 s).1:=by omega
  rw [show rMany Tx.rIn (Pk.rC 8 s).1 (Pk.rC 8 s).2=(rList 8 Tx.rIn s) from rfl] at H
  have hlr2:=hlr
  refine kr (sMs U (sAs U (ln (kx ?_))))
  refine qr (v:=.slice _ _ _) U U ⟨_,U,A2,c2,ys,S2,sl_eq hlr.symm,by rw [hlr];exact hd.1,hd.2,?_⟩
  rw [hlr]
  exact H

theorem listOut {A0:Option Addr} {c0 r:Nat} {b:List UInt8} {s:RS} (w:World) (hR:(RdYP 5 134 r A0 b.length c0 (·=b) s).p w) {q:Nat} (hq:Gat w q [.pointer (some ⟨r,0,none⟩)]) (hTq:¬(RdT r A0 b.length c0) q) (hok:Pk.Ok s) (hG:Gat w 0 formsC) (h0:¬(RdT r A0 b.length c0) 0):Calls Tryz.prog 124 [.pointer (some ⟨r,0,none⟩),.int .i64 8,.func (.func 125) #[] [.pointer (some ⟨q,0,none⟩)].toArray].toArray w (Ret (fun v' w'=>∃A c xs S2,v'=.slice A (rList 8 Tx.rOut s).1.length c∧(rList 8 Tx.rOut s).1.length<=c∧c<=9223372036854775807∧St (RdT r A0 b.length c0) w w' [Fact.row 66 2 (.slice A (rList 8 Tx.rOut s).1.length c) (rList 8 Tx.rOut s).1.length xs,Fact.els (ROutH A0 b) 2 S2 xs (rList 8 Tx.rOut s).1,RdYP 5 134 r A0 b.length c0 (·=b) (rList 8 Tx.rOut s).2])):=by
 have H0:=St.begin (f:=RdYP 5 134 r A0 b.length c0 (·=b) s) hR (RdB.lt hR)
 refine kE (l:=[_,_,_]) Tryz.func124 U U ?_
 have H:=H0
 have hcb:=count_bound (m:=8) (s:=s) (by decide)
 have hlr:(rList 8 Tx.rOut s).1.length=(Pk.rC 8 s).1:=len_rMany _ _
 refine kR (sAs U (ln (kQ (kR (sMp U (sMi U (sf (ecl Tryz.func62 U U (prgCount (m:=8) _ (H.get (f:=RdYP 5 134 r A0 b.length c0 (·=b) s)) hok (H.gatT hG h0) h0) ?_))))))))
 rintro _ W ⟨rfl,hp_,hf_⟩
 replace H:=H.mut (f:=RdYP 5 134 r A0 b.length c0 (·=b) s) (f':=RdYP 5 134 r A0 b.length c0 (·=b) (Pk.rC 8 s).2) hf_ hp_ (fun _ h=>h)
 clear hp_ hf_
 refine sMi U (ln (kb (kL 10 [6] (fun mm sl W=>∃i:Nat,∃A2:Option Addr,∃c2:Nat,∃ys:List Value,∃S2:Nat->Prop,(Pk.rC 8 s).1 - i=mm∧sl=[(10,.int .i64 (i:Int)),(6,.slice A2 i c2)]∧(i<=(Pk.rC 8 s).1)∧(i<=c2∧c2<=9223372036854775807)∧St (RdT r A0 b.length c0) w W [Fact.row 66 2 (.slice A2 i c2) i ys,Fact.els (ROutH A0 b) 2 S2 ys (rMany Tx.rOut i (Pk.rC 8 s).2).1,RdYP 5 134 r A0 b.length c0 (·=b) (rMany Tx.rOut i (Pk.rC 8 s).2).2]) _ _ ⟨0,none,0,[],(fun _=>False),U,U,Nat.zero_le _,⟨Nat.le_refl _,by omega⟩,((H.els0 (ROutH A0 b) 2).nilrow 66 2)⟩ ⟨U,U,trivial⟩ (fun mm sl ρv W hJ=>?_))))
 clear H;obtain ⟨i,A2,c2,ys,S2,rfl,rfl,hi,hd,H⟩:=hJ
 refine ko (kR (sLt U U (ln (kQ (kC U (fun hc11=>?_) (fun hc11=>?_))))))
 ·replace hc11:=of_decide_eq_true hc11
  have hlt:i<(Pk.rC 8 s).1:=by omega
  have hoki:=(sane_many Tx.sane_out i).2 _ (Pk.ok_rCount (m:=8) hok)
  refine kS (kQ (kb (kr (sMs U (sMf U (sf (e_callv (wn U) U U U Tryz.func125 U U U (getOutF _ (H.get (f:=RdYP 5 134 r A0 b.length c0 (·=b) (rMany Tx.rOut i (Pk.rC 8 s).2).2)) (H.gatT hq hTq) hTq hoki (H.gatT hG h0) h0) ?_)))))))
  rintro _ W ⟨⟨B1,d1,rfl,hH⟩,hp_,hf_⟩
  replace H:=H.mut (f:=RdYP 5 134 r A0 b.length c0 (·=b) (rMany Tx.rOut i (Pk.rC 8 s).2).2) (f':=RdYP 5 134 r A0 b.length c0 (·=b) (Tx.rOut (rMany Tx.rOut i (Pk.rC 8 s).2).2).2) hf_ hp_ (fun _ h=>h)
  clear hp_ hf_
  replace H:=H.flat (R:=ROutH A0 b) (cs:=outC (Tx.rOut (rMany Tx.rOut i (Pk.rC 8 s).2).2).1.value B1 (Tx.rOut (rMany Tx.rOut i (Pk.rC 8 s).2).2).1.script.length d1) (a:=(Tx.rOut (rMany Tx.rOut i (Pk.rC 8 s).2).2).1) (out_held Tx.int_ok hH)
  refine sf (ebs (xs:=[.tmp 14]) (vals:=[.agg (outC (Tx.rOut (rMany Tx.rOut i (Pk.rC 8 s).2).2).1.value B1 (Tx.rOut (rMany Tx.rOut i (Pk.rC 8 s).2).2).1.script.length d1).toArray]) (vs:=(outC (Tx.rOut (rMany Tx.rOut i (Pk.rC 8 s).2).2).1.value B1 (Tx.rOut (rMany Tx.rOut i (Pk.rC 8 s).2).2).1.script.length d1)) U U U U tu32 ts66 ty66 U (by simp [agg_cells,outC]) (by simp [agg_cells]) H ?_)
  clear H;intro g3_3 W H
  refine sf (eap tu32 tx66 U U U H (rd_blk (m:=1) H.blk U) (U) (by omega) U ?_)
  clear H;intro A1 c1 W hc1 hd1 H
  replace H:=H.drop
  refine sAs U (ln ?_)
  replace H:=(St.elsnoc (H.perm (.cons _ (.swap _ _ _))) rfl).perm (.swap _ _ _)
  refine kn (zE (kr (sAd U U (by omega) (sMi U (ln (kn (kY ?_)))))))
  refine ⟨_,_,_,?_,U,?_,?_,⟨i+1,A1,c1,_,_,U,U,by omega,⟨hc1,hd1⟩,H⟩⟩
  ·omega
  ·with_reducible repeat first|exact .refl|refine .f ?_ ?_ ?_;kernel_rfl;kernel_rfl|refine .u ?_ ?_;kernel_rfl
  ·refine ⟨?_,?_,trivial⟩
   ·exact vi (by omega)
   ·exact U
 ·replace hc11:=of_decide_eq_false hc11
  refine ke (xt (xt ?_))
  refine xH (kQ ?_)
  obtain rfl:i=(Pk.rC 8 s).1:=by omega
  rw [show rMany Tx.rOut (Pk.rC 8 s).1 (Pk.rC 8 s).2=(rList 8 Tx.rOut s) from rfl] at H
  have hlr2:=hlr
  refine kr (sMs U (sAs U (ln (kx ?_))))
  refine qr (v:=.slice _ _ _) U U ⟨_,U,A2,c2,ys,S2,sl_eq hlr.symm,by rw [hlr];exact hd.1,hd.2,?_⟩
  rw [hlr]
  exact H

theorem listItem {A0:Option Addr} {c0 r:Nat} {b:List UInt8} {s:RS} (w:World) (hR:(RdYP 5 134 r A0 b.length c0 (·=b) s).p w) {q:Nat} (hq:Gat w q [.pointer (some ⟨r,0,none⟩)]) (hTq:¬(RdT r A0 b.length c0) q) (hok:Pk.Ok s) (hG:Gat w 0 formsC) (h0:¬(RdT r A0 b.length c0) 0):Calls Tryz.prog 126 [.pointer (some ⟨r,0,none⟩),.int .i64 16,.func (.func 127) #[] [.pointer (some ⟨q,0,none⟩)].toArray].toArray w (Ret (fun v' w'=>∃A c xs S2,v'=.slice A (rList 16 (Pk.rB 64) s).1.length c∧(rList 16 (Pk.rB 64) s).1.length<=c∧c<=9223372036854775807∧St (RdT r A0 b.length c0) w w' [Fact.row 41 1 (.slice A (rList 16 (Pk.rB 64) s).1.length c) (rList 16 (Pk.rB 64) s).1.length xs,Fact.els (RBH A0 b) 1 S2 xs (rList 16 (Pk.rB 64) s).1,RdYP 5 134 r A0 b.length c0 (·=b) (rList 16 (Pk.rB 64) s).2])):=by
 have H0:=St.begin (f:=RdYP 5 134 r A0 b.length c0 (·=b) s) hR (RdB.lt hR)
 refine kE (l:=[_,_,_]) Tryz.func126 U U ?_
 have H:=H0
 have hcb:=count_bound (m:=16) (s:=s) (by decide)
 have hlr:(rList 16 (Pk.rB 64) s).1.length=(Pk.rC 16 s).1:=len_rMany _ _
 refine kR (sAs U (ln (kQ (kR (sMp U (sMi U (sf (ecl Tryz.func62 U U (prgCount (m:=16) _ (H.get (f:=RdYP 5 134 r A0 b.length c0 (·=b) s)) hok (H.gatT hG h0) h0) ?_))))))))
 rintro _ W ⟨rfl,hp_,hf_⟩
 replace H:=H.mut (f:=RdYP 5 134 r A0 b.length c0 (·=b) s) (f':=RdYP 5 134 r A0 b.length c0 (·=b) (Pk.rC 16 s).2) hf_ hp_ (fun _ h=>h)
 clear hp_ hf_
 refine sMi U (ln (kb (kL 10 [6] (fun mm sl W=>∃i:Nat,∃A2:Option Addr,∃c2:Nat,∃ys:List Value,∃S2:Nat->Prop,(Pk.rC 16 s).1 - i=mm∧sl=[(10,.int .i64 (i:Int)),(6,.slice A2 i c2)]∧(i<=(Pk.rC 16 s).1)∧(i<=c2∧c2<=9223372036854775807)∧St (RdT r A0 b.length c0) w W [Fact.row 41 1 (.slice A2 i c2) i ys,Fact.els (RBH A0 b) 1 S2 ys (rMany (Pk.rB 64) i (Pk.rC 16 s).2).1,RdYP 5 134 r A0 b.length c0 (·=b) (rMany (Pk.rB 64) i (Pk.rC 16 s).2).2]) _ _ ⟨0,none,0,[],(fun _=>False),U,U,Nat.zero_le _,⟨Nat.le_refl _,by omega⟩,((H.els0 (RBH A0 b) 1).nilrow 41 1)⟩ ⟨U,U,trivial⟩ (fun mm sl ρv W hJ=>?_))))
 clear H;obtain ⟨i,A2,c2,ys,S2,rfl,rfl,hi,hd,H⟩:=hJ
 refine ko (kR (sLt U U (ln (kQ (kC U (fun hc11=>?_) (fun hc11=>?_))))))
 ·replace hc11:=of_decide_eq_true hc11
  have hlt:i<(Pk.rC 16 s).1:=by omega
  have hoki:=(sane_many (sane_blob (m:=64)) i).2 _ (Pk.ok_rCount (m:=16) hok)
  refine kS (kQ (kb (kr (sMs U (sMf U (sf (e_callv (wn U) U U U Tryz.func127 U U U (getItemF _ (H.get (f:=RdYP 5 134 r A0 b.length c0 (·=b) (rMany (Pk.rB 64) i (Pk.rC 16 s).2).2)) (H.gatT hq hTq) hTq hoki (H.gatT hG h0) h0) ?_)))))))
  rintro _ W ⟨⟨B1,d1,rfl,hH⟩,hp_,hf_⟩
  replace H:=H.mut (f:=RdYP 5 134 r A0 b.length c0 (·=b) (rMany (Pk.rB 64) i (Pk.rC 16 s).2).2) (f':=RdYP 5 134 r A0 b.length c0 (·=b) (Pk.rB 64 (rMany (Pk.rB 64) i (Pk.rC 16 s).2).2).2) hf_ hp_ (fun _ h=>h)
  clear hp_ hf_
  replace H:=H.flat (R:=RBH A0 b) (cs:=[.slice B1 (Pk.rB 64 (rMany (Pk.rB 64) i (Pk.rC 16 s).2).2).1.length d1]) (a:=(Pk.rB 64 (rMany (Pk.rB 64) i (Pk.rC 16 s).2).2).1) (⟨_,rfl,hH⟩)
  refine sf (ebs (xs:=[.tmp 14]) (vals:=[.slice _ _ _]) (vs:=[.slice _ _ _]) U U U U tu62 ts41 ty41 U U U H ?_)
  clear H;intro g3_3 W H
  refine sf (eap tu62 tx41 U U U H (rd_blk (m:=1) H.blk U) (U) (by omega) U ?_)
  clear H;intro A1 c1 W hc1 hd1 H
  replace H:=H.drop
  refine sAs U (ln ?_)
  replace H:=(St.elsnoc (H.perm (.cons _ (.swap _ _ _))) rfl).perm (.swap _ _ _)
  refine kn (zE (kr (sAd U U (by omega) (sMi U (ln (kn (kY ?_)))))))
  refine ⟨_,_,_,?_,U,?_,?_,⟨i+1,A1,c1,_,_,U,U,by omega,⟨hc1,hd1⟩,H⟩⟩
  ·omega
  ·with_reducible repeat first|exact .refl|refine .f ?_ ?_ ?_;kernel_rfl;kernel_rfl|refine .u ?_ ?_;kernel_rfl
  ·refine ⟨?_,?_,trivial⟩
   ·exact vi (by omega)
   ·exact U
 ·replace hc11:=of_decide_eq_false hc11
  refine ke (xt (xt ?_))
  refine xH (kQ ?_)
  obtain rfl:i=(Pk.rC 16 s).1:=by omega
  rw [show rMany (Pk.rB 64) (Pk.rC 16 s).1 (Pk.rC 16 s).2=(rList 16 (Pk.rB 64) s) from rfl] at H
  have hlr2:=hlr
  refine kr (sMs U (sAs U (ln (kx ?_))))
  refine qr (v:=.slice _ _ _) U U ⟨_,U,A2,c2,ys,S2,sl_eq hlr.symm,by rw [hlr];exact hd.1,hd.2,?_⟩
  rw [hlr]
  exact H
end Go.Proofs.YtfhhfhdnhadooaaGreatDoor

namespace Go.Proofs.YtfhhfhdnhadooaaGreatDoor
open Go Go.RowKit

namespace Tx
abbrev G1 (b:List UInt8):=rList 8 rIn (b,0)
abbrev G2 (b:List UInt8):=rList 8 rOut (G1 b).2
abbrev G3 (b:List UInt8):=Pk.rInt (G2 b).2
abbrev GW (b:List UInt8) (i:Nat):=rMany rWit i (G3 b).2
def insAt (b:List UInt8) (i:Nat):List DIn:=List.zipWith setW ((G1 b).1.take i) (GW b i).1++(G1 b).1.drop i
def gotTx (b:List UInt8):DTx:=⟨insAt b (G1 b).1.length,(G2 b).1,((G3 b).1:Int)⟩
theorem gwlen {b:List UInt8} {i:Nat}:(GW b i).1.length=i:=len_rMany _ _
theorem insAt_0 {b:List UInt8}:insAt b 0=(G1 b).1:=by unfold insAt;simp
theorem zlen {b:List UInt8} {i:Nat} (h:i<=(G1 b).1.length):(List.zipWith setW ((G1 b).1.take i) (GW b i).1).length=i:=by
 rw [List.length_zipWith,gwlen,List.length_take];omega
theorem insAt_len {b:List UInt8} {i:Nat} (h:i<=(G1 b).1.length):(insAt b i).length=(G1 b).1.length:=by
 unfold insAt
 rw [List.length_append,zlen h,List.length_drop];omega
theorem insAt_get {b:List UInt8} {i:Nat} (h:i<=(G1 b).1.length):(insAt b i)[i]?=(G1 b).1[i]?:=by
 unfold insAt
 rw [List.getElem?_append_right (by rw [zlen h];exact Nat.le_refl _),zlen h,Nat.sub_self,List.getElem?_drop,Nat.add_zero]
theorem zip_snoc {α β γ:Type} {f:α->β->γ}:∀(a:List α) (c:List β) (x:α) (y:β),a.length=c.length->List.zipWith f (a++[x]) (c++[y])=List.zipWith f a c++[f x y]
 | [],[],x,y,_=>rfl
 | u::a,v::c,x,y,h=>by
  rw [List.cons_append,List.cons_append,List.zipWith_cons_cons,zip_snoc a c x y (by simpa using h)];rfl
 | [],_::_,_,_,h=>by simp at h
 | _::_,[],_,_,h=>by simp at h
theorem insAt_step {b:List UInt8} {i:Nat} {x:DIn} (hx:(G1 b).1[i]?=some x):insAt b (i+1)=(insAt b i).set i ⟨x.point,(rWit (GW b i).2).1⟩:=by
 have hi:=(List.getElem?_eq_some_iff.1 hx).1
 have e1:(GW b (i+1)).1=(GW b i).1++[(rWit (GW b i).2).1]:=rfl
 have hz:=zlen (b:=b) (i:=i) (by omega)
 have e2:(insAt b i).set i ⟨x.point,(rWit (GW b i).2).1⟩=List.zipWith setW ((G1 b).1.take i) (GW b i).1++((⟨x.point,(rWit (GW b i).2).1⟩:DIn)::(G1 b).1.drop (i+1)):=by
  unfold insAt
  rw [List.set_append_right _ _ (by rw [hz];exact Nat.le_refl _),hz,Nat.sub_self]
  obtain ⟨h1,h2⟩:=List.getElem?_eq_some_iff.1 hx
  rw [List.drop_eq_getElem_cons h1,List.set_cons_zero]
 rw [e2]
 unfold insAt
 rw [take_get hx,e1,zip_snoc _ _ _ _ (by rw [gwlen,List.length_take];omega),List.append_assoc]
 rfl
theorem got_read {b:List UInt8}:read (b,0)=(gotTx b,(GW b (G1 b).1.length).2):=by
 have e:gotTx b=mk (((G1 b).1,((G2 b).1,((G3 b).1:Int))),(GW b (G1 b).1.length).1):=by
  unfold gotTx mk insAt
  dsimp only
  rw [List.drop_length,List.append_nil,List.take_length]
 rw [e]
 rfl
theorem get_eq {b:List UInt8}:get b=fin (gotTx b,(GW b (G1 b).1.length).2):=by unfold get;rw [got_read]
theorem ok_got {b:List UInt8}:Ok (gotTx b):=by
 have:=ok_read (s:=(b,0))
 rw [got_read] at this
 exact this
end Tx
section
variable {W:World} {S S':Nat->Prop} {A0:Option Addr} {b:List UInt8}
theorem in_held {cs:List Value} {x:DIn} (h:RInH A0 b W S cs x):∃A c,cs=inC x.point A x.wit.length c∧x.point.tx.length=32∧I64 x.point.n:=by
 obtain ⟨c0,c1,rfl,h0,h1⟩:=h
 obtain ⟨rfl,h2,h3⟩:=point_of h0
 obtain ⟨⟨A,c,xs,rfl,_⟩,_⟩:=h1
 exact ⟨A,c,rfl,h2,h3⟩
theorem in_heldR {p:DPoint} {A:Option Addr} {c:Nat} {w:List (List UInt8)} (h:p.tx.length=32) (hn:I64 p.n) (hw:RLO 41 1 (RBH A0 b) W S [.slice A w.length c] w):RInH A0 b W S (inC p A w.length c) ⟨p,w⟩:=⟨_,_,rfl,point_rep h hn,hw⟩
theorem set_in_w {p:DPoint} {A A':Option Addr} {m c m' c':Nat} (h:p.tx.length=32):(inC p A m c).set 33 (.slice A' m' c')=inC p A' m' c':=by
 unfold inC
 rw [List.set_append_right _ _ (by rw [len_point h];exact Nat.le_refl _),len_point h]
 rfl
theorem rbh_conv {u t r c0:Nat} {s:RS} {v:Value} {d:List UInt8} (hP:(RdYB u t r A0 b.length c0 (·=b) v d s).p W) (hS:∀g,(Value.slice A0 b.length c0).ownBlock=some g->S' g) {cs:List Value} {x:List UInt8} (h:RBH A0 b W S cs x):RB W S' cs x:=by
 obtain ⟨v,rfl,hH⟩:=h
 exact ⟨v,rfl,(held_own hP hH).mono (fun g _ hg=>hS g hg)⟩
theorem inh_conv {u t r c0:Nat} {s:RS} {v:Value} {d:List UInt8} (hP:(RdYB u t r A0 b.length c0 (·=b) v d s).p W) (hS:∀g,(Value.slice A0 b.length c0).ownBlock=some g->S' g) (hS2:∀g,S g->S' g) {cs:List Value} {x:DIn} (h:RInH A0 b W S cs x):RIn W S' cs x:=by
 obtain ⟨c0,c1,rfl,h0,h1⟩:=h
 exact ⟨c0,c1,rfl,mono_Point _ _ _ _ _ h0 (fun g _ hg=>hS2 g hg),rl_conv h1.1 hS2 (fun _ _ h=>rbh_conv hP hS h)⟩
theorem outh_conv {u t r c0:Nat} {s:RS} {v:Value} {d:List UInt8} (hP:(RdYB u t r A0 b.length c0 (·=b) v d s).p W) (hS:∀g,(Value.slice A0 b.length c0).ownBlock=some g->S' g) {cs:List Value} {x:DOut} (h:ROutH A0 b W S cs x):ROut W S' cs x:=by
 obtain ⟨c0,c1,rfl,h0,h1⟩:=h
 exact ⟨c0,c1,rfl,h0,rbh_conv hP hS h1⟩
end
structure Parts (T:Nat->Prop) (w W:World) (b:List UInt8) (t:DTx) (eI eO u tR:Nat) (A B:Option Addr) (c d:Nat) (L:List Fact):Prop where
 st:∃r A0 c0 s xs ys S0 S1,St T w W (Fact.row eI 34 (.slice A t.ins.length c) t.ins.length xs::Fact.els (RInH A0 b) 34 S0 xs t.ins::Fact.row eO 2 (.slice B t.outs.length d) t.outs.length ys::Fact.els (ROutH A0 b) 2 S1 ys t.outs::RdYP u tR r A0 b.length c0 (·=b) s::L)
theorem parts_rep {T:Nat->Prop} {w W:World} {b:List UInt8} {t:DTx} {eI eO u tR:Nat} {A B:Option Addr} {c d:Nat} {L:List Fact} (h:Parts T w W b t eI eO u tR A B c d L) (hk:I64 t.lock):∃S,St T w W (Fact.rep RTx S (txC A t.ins.length c B t.outs.length d t.lock) t::L):=by
 obtain ⟨r,A0,c0,s,xs,ys,S0,S1,H⟩:=h.st
 have H2:=(H.tolist.perm (.trans (.swap _ _ _) (.cons _ (.swap _ _ _)))).tolist
 obtain ⟨SO,hSO⟩:∃SO,SO=(fun g=>(Value.slice B t.outs.length d).ownBlock=some g∨S1 g):=⟨_,rfl⟩
 obtain ⟨SI,hSI⟩:∃SI,SI=(fun g=>(Value.slice A t.ins.length c).ownBlock=some g∨S0 g):=⟨_,rfl⟩
 rw [←hSO,←hSI] at H2
 have hP:=H2.holds _ (.tail _ (.tail _ (.head _)))
 have hI:RL 34 (RInH A0 b) W SI [.slice A t.ins.length c] t.ins:=H2.holds _ (.tail _ (.head _))
 have hO:RL 2 (ROutH A0 b) W SO [.slice B t.outs.length d] t.outs:=H2.holds _ (.head _)
 have hp:RTx W (fun g=>(SO g∨SI g)∨RdT r A0 b.length c0 g) (txC A t.ins.length c B t.outs.length d t.lock) t :=
  ⟨_,_,_,rfl,rl_conv hI (fun g hg=>.inl (.inr hg)) (fun _ _ h=>inh_conv hP (fun g hg=>.inr (.inr hg)) (fun g hg=>.inl (.inr hg)) h),rl_conv hO (fun g hg=>.inl (.inl hg)) (fun _ _ h=>outh_conv hP (fun g hg=>.inr (.inr hg)) h),rfl,hk⟩
 exact ⟨_,H2.two.merge (F:=Fact.rep RTx _ _ t) hp (fun g hg=>hg)⟩

def GotTx (w:World) (b:List UInt8) (v:Value) (w':World):Prop:=∃cs,v=.tuple #[.agg cs.toArray,.int .i64 (Tx.get b).2]∧(((Tx.get b).2≠0∧cs=txC none 0 0 none 0 0 0∧Below w.heap.size w w')∨((Tx.get b).2=0∧∃A c B d,cs=txC A (Tx.get b).1.ins.length c B (Tx.get b).1.outs.length d (Tx.get b).1.lock∧Parts nT w w' b (Tx.get b).1 64 66 5 134 A B c d []))
theorem GotTx.rep {w W W':World} {T:Nat->Prop} {L:List Fact} {b:List UInt8} {v:Value} (h:GotTx W b v W') (H:St T w W L):∃S A c B d,v=.tuple #[.agg (txC A (Tx.get b).1.ins.length c B (Tx.get b).1.outs.length d (Tx.get b).1.lock).toArray,.int .i64 (Tx.get b).2]∧St T w W' (Fact.rep RTx S (txC A (Tx.get b).1.ins.length c B (Tx.get b).1.outs.length d (Tx.get b).1.lock) (Tx.get b).1::L):=by
 obtain ⟨cs,hv,⟨h1,rfl,hb⟩|⟨h1,A,c,B,d,rfl,hp⟩⟩:=h
 ·have e:=Tx.get_zero h1
  refine ⟨fun _=>False,none,0,none,0,by rw [hv,e];rfl,?_⟩
  rw [e]
  exact (H.below hb).flat (R:=RTx) (a:=Tx.zero) ⟨_,_,_,U,rl_nil,rl_nil,U,by decide,by decide⟩
 ·obtain ⟨S,K⟩:=parts_rep hp Tx.ok_get.2.2
  exact ⟨S,A,c,B,d,hv,H.add1 K⟩

theorem getTP {S:Nat->Prop} {v:Value} {b:List UInt8} (w:World) (hb:Bs w S v b) (hbl:b.length<=1000000000000) (hG:Gat w 0 formsC):Calls Tryz.prog 65 [v].toArray w (Ret (GotTx w b)):=by
 have hb0:=hb
 obtain ⟨Ab,cb,rfl,_,_,_⟩:=hb.op
 have hok0:Pk.Ok (b,0):=⟨fun h=>absurd rfl h,(show (0:Int)<=0 by decide),(show (0:Int)<=24 by decide)⟩
 have hok1:Pk.Ok (Tx.G1 b).2:=(sane_list Tx.sane_in).2 _ hok0
 have hok2:Pk.Ok (Tx.G2 b).2:=(sane_list Tx.sane_out).2 _ hok1
 have hok3:Pk.Ok (Tx.G3 b).2:=Pk.ok_rInt hok2
 have hn8:(Tx.G1 b).1.length<=8:=by have:=count_bound (m:=8) (s:=(b,0)) (by decide);have e:(Tx.G1 b).1.length=(Pk.rC 8 (b,0)).1:=len_rMany _ _;omega
 refine kE (l:=[_]) Tryz.func65 U U ?_
 have H:=St.start nT w
 refine kR (sf (eal [.slice none 0 0,.slice none 0 0,.int .i64 0] tz34 H ?_))
 clear H;intro go W H
 refine sAi U (lkR (sMs U (sf (ecl Tryz.func59 U U (prgReadY _ (H.bs hb0) hbl) ?_))))
 rintro _ W ⟨r,A0,c0,rfl,hn⟩
 replace H:=H.add1 hn
 clear hn
 refine sf (eal [.pointer none] tz89 H ?_)
 clear H;intro gr W H
 refine sf (e_sto (wn U) U U U U U ts89 U H U ?_)
 clear H;intro W H
 have hTq:¬RdT r A0 b.length c0 gr:=fun h=>(List.pairwise_cons.1 H.apart).1 _ (.head _) gr rfl h
 have h0:¬RdT r A0 b.length c0 0:=H.away (f:=RdYP 5 134 r A0 b.length c0 (·=b) (b,0)) hG.1
 refine lkR (sf (eal [.slice none 0 0,.slice none 0 0,.int .i64 0] tz34 H ?_))
 clear H;intro gt W H
 refine lkR (sR (d_ld U H U ta89 U) (sR (d_mkf U U U) (sf (ecl Tryz.func122 U U (listIn _ (H.get (f:=RdYP 5 134 r A0 b.length c0 (·=b) (b,0))) (gat_of (H.blk (g:=gr))) hTq hok0 (H.gat hG) h0) ?_))))
 rintro _ W ⟨A1,c1,xs1,S1,rfl,hc1,hd1,hK⟩
 replace H:=H.mutK2 (f:=RdYP 5 134 r A0 b.length c0 (·=b) (b,0)) (f':=RdYP 5 134 r A0 b.length c0 (·=b) (Tx.G1 b).2) hK rfl
 clear hK
 replace hc1:(Tx.G1 b).1.length<=c1:=hc1
 refine sFa U tf34_0 ?_
 refine sf (e_sto (wn U) U U U U U ts31 U H U ?_)
 clear H;intro W H
 refine lkR (sR (d_ld U H U ta89 U) (sR (d_mkf U U U) (sf (ecl Tryz.func124 U U (listOut _ (H.get (f:=RdYP 5 134 r A0 b.length c0 (·=b) (Tx.G1 b).2)) (gat_of (H.blk (g:=gr))) hTq hok1 (H.gat hG) h0) ?_))))
 rintro _ W ⟨A2,c2,xs2,S2,rfl,hc2,hd2,hK⟩
 replace H:=H.mutK2 (f:=RdYP 5 134 r A0 b.length c0 (·=b) (Tx.G1 b).2) (f':=RdYP 5 134 r A0 b.length c0 (·=b) (Tx.G2 b).2) hK rfl
 clear hK
 replace hc2:(Tx.G2 b).1.length<=c2:=hc2
 refine sFa U tf34_1 ?_
 refine sf (e_sto (wn U) U U U U U ts32 U H U ?_)
 clear H;intro W H
 refine lkR (sR (d_ld U H U ta89 U) (sf (ecl Tryz.func61 U U (prgInt _ (H.get (f:=RdYP 5 134 r A0 b.length c0 (·=b) (Tx.G2 b).2)) hok2 (H.gat hG) h0) ?_)))
 rintro _ W ⟨rfl,hp_,hf_⟩
 replace H:=H.mut (f:=RdYP 5 134 r A0 b.length c0 (·=b) (Tx.G2 b).2) (f':=RdYP 5 134 r A0 b.length c0 (·=b) (Tx.G3 b).2) hf_ hp_ (fun _ h=>h)
 clear hp_ hf_
 refine sFa U tf34_2 ?_
 refine sf (e_sto (wn U) U U U U U ts3 U H U ?_)
 clear H;intro W H
 refine ln (kQ (kR (sFa U tf34_0 (sR (d_ld U H U ta31 U) (sLn U tu31 (sMi U (ln (kb (kL 24 [6] (fun mm sl W=>∃i:Nat,∃xs:List Value,∃S3:Nat->Prop,(Tx.G1 b).1.length - i=mm∧sl=[(24,.int .i64 (i:Int))]∧(i<=(Tx.G1 b).1.length)∧St nT w W [Fact.row 66 2 (.slice A2 (Tx.G2 b).1.length c2) (Tx.G2 b).1.length xs2,Fact.els (ROutH A0 b) 2 S2 xs2 (Tx.G2 b).1,Fact.row 64 34 (.slice A1 (Tx.G1 b).1.length c1) (Tx.G1 b).1.length xs,Fact.els (RInH A0 b) 34 S3 xs (Tx.insAt b i),Fact.blk gt (txC A1 (Tx.G1 b).1.length c1 A2 (Tx.G2 b).1.length c2 ((Tx.G3 b).1:Int)) 34,Fact.blk gr [.pointer (some ⟨r,0,none⟩)] 89,RdYP 5 134 r A0 b.length c0 (·=b) (Tx.GW b i).2,Fact.blk go [.slice none 0 0,.slice none 0 0,.int .i64 0] 34]) _ _ ⟨0,xs1,S1,U,U,Nat.zero_le _,(by rw [Tx.insAt_0];exact H)⟩ ⟨U,trivial⟩ (fun mm sl ρv W hJ=>?_))))))))))
 clear H;obtain ⟨i,xs,S3,rfl,rfl,hi,H⟩:=hJ
 refine ko (kR (sLt U U (ln (kQ (kC U (fun hc25=>?_) (fun hc25=>?_))))))
 ·replace hc25:(i:Int)<((Tx.G1 b).1.length:Int):=of_decide_eq_true hc25
  have hlt:i<(Tx.G1 b).1.length:=by omega
  obtain ⟨x,hx⟩:=get_lt hlt
  obtain ⟨g1,rfl⟩:∃g1,A1=some ⟨g1,0,none⟩:=row_own (H.get (f:=Fact.row 64 34 (.slice A1 (Tx.G1 b).1.length c1) (Tx.G1 b).1.length xs)) (by omega)
  have hels:=H.get (f:=Fact.els (RInH A0 b) 34 S3 xs (Tx.insAt b i))
  obtain ⟨Ax,cx,hL,hp,hn⟩:=in_held (hels.2 i x (by rw [Tx.insAt_get hi];exact hx))
  have hxl:xs.length=(Tx.G1 b).1.length*34:=by have:=hels.1;rw [Tx.insAt_len hi] at this;exact this
  have hoki:=(sane_many Tx.sane_wit i).2 _ hok3
  have hmul:=Nat.mul_le_mul_right 34 (show i+1<=(Tx.G1 b).1.length by omega)
  rw [Nat.add_mul] at hmul
  refine kS (kQ (kb (kR (sMi U (sAi U (ln (k_draw [(0,true),(1,true),(2,true),(3,true),(4,true),(5,false),(6,true),(7,true),(8,false)] [Fact.blk gt (txC (some ⟨g1,0,none⟩) (Tx.G1 b).1.length c1 A2 (Tx.G2 b).1.length c2 ((Tx.G3 b).1:Int)) 34,Fact.blk gr [.pointer (some ⟨r,0,none⟩)] 89] (by kernel_rfl) (by kernel_rfl) H (by repeat (first|exact .refl _|exact List.nil_sublist _|refine .cons_cons _ ?_|refine .cons _ ?_)) ?_)))))))
  clear H;intro W H
  refine cFa U U tf34_0 (cR U (fun W H=>d_ld U H U ta31 U) (cMi U U (cR U (fun W H=>d_ld U H U ta89 U) (cR U (fun W H=>d_mkf U U U) (cf U (ecl Tryz.func126 U U (listItem _ (H.get (f:=RdYP 5 134 r A0 b.length c0 (·=b) (Tx.GW b i).2)) (gat_of (H.blk (g:=gr))) hTq hoki (H.gat hG) h0) ?_))))))
  rintro _ W ⟨A9,c9,xs9,S9,rfl,hc9,hd9,hK⟩
  replace H:=H.mutK2 (f:=RdYP 5 134 r A0 b.length c0 (·=b) (Tx.GW b i).2) (f':=RdYP 5 134 r A0 b.length c0 (·=b) (Tx.rWit (Tx.GW b i).2).2) hK rfl
  clear hK
  replace hc9:(Tx.rWit (Tx.GW b i).2).1.length<=c9:=hc9
  refine ⟨H.sb,?_⟩
  refine cR U (fun W H=>d_iaP (q:=i) U U U U hlt tu31 ts64) (cFa U U tf64_1 (cf U (e_stoG (k:=i*34+33) (s:=34) (e:=64) (m:=(Tx.G1 b).1.length) (c:=c1) (wn U) U U U (by omega) U U ts62 U H (by omega) ?_)))
  clear H;intro W H
  refine ⟨H.sb,?_⟩
  refine c_nil ?_
  replace H:=H.tolistO
  replace H:=H.rerep (R':=RInH A0 b) (cs':=inC x.point A9 (Tx.rWit (Tx.GW b i).2).1.length c9) (b:=⟨x.point,(Tx.rWit (Tx.GW b i).2).1⟩) (fun h=>in_heldR hp hn h)
  replace H:=els_set (i:=i) (xs':=xs.set (i*34+33) (.slice A9 (Tx.rWit (Tx.GW b i).2).1.length c9)) (H.perm (.cons _ (List.perm_middle (l₁:=[_,_,_])))) (by rw [Tx.insAt_len hi];exact hlt) (by rw [sub_set_self (by decide),hL];exact set_in_w hp) (fun j hj hji=>sub_set_other (by decide) hji) (by rw [List.length_set])
  replace H:=H.perm (List.perm_middle (l₁:=[_,_,_])).symm
  refine kn (zE (kr (sAd U U (by omega) (sMi U (ln (kn (kY ?_)))))))
  refine ⟨_,_,_,?_,U,?_,?_,⟨i+1,_,_,U,U,by omega,by rw [Tx.insAt_step hx];exact H⟩⟩
  ·omega
  ·with_reducible repeat first|exact .refl|refine .f ?_ ?_ ?_;kernel_rfl;kernel_rfl|refine .u ?_ ?_;kernel_rfl
  ·refine ⟨?_,trivial⟩
   ·exact vi (by omega)
 ·replace hc25:¬(i:Int)<((Tx.G1 b).1.length:Int):=of_decide_eq_false hc25
  obtain rfl:i=(Tx.G1 b).1.length:=by omega
  refine ke (xt (xt ?_))
  refine xH (kR (sR (d_ld U H U ta89 U) (sf (eI Tryz.func64 U U (prgEnd _ (H.get (f:=RdYP 5 134 r A0 b.length c0 (·=b) (Tx.GW b (Tx.G1 b).1.length).2))) H ?_))))
  clear H;intro W H
  refine sAi U (ln (kQ (kR (sMi U (sEq U U (ln (kC U (fun hc39=>?_) (fun hc39=>?_))))))))
  ·have he:Pk.rEnd (Tx.GW b (Tx.G1 b).1.length).2=0:=by simpa using hc39
   have hgl:(Tx.gotTx b).ins.length=(Tx.G1 b).1.length:=Tx.insAt_len (Nat.le_refl _)
   have hPt:Parts nT w W b (Tx.gotTx b) 64 66 5 134 A1 A2 c1 c2 [_,_,_]:=⟨r,A0,c0,(Tx.GW b (Tx.G1 b).1.length).2,xs,xs2,S3,S2,by rw [hgl];exact H.perm ((List.perm_append_comm (l₁:=[_,_]) (l₂:=[_,_])).append (List.perm_middle (l₁:=[_,_]) (l₂:=[_])))⟩
   refine kr (sR (dM (g:=gt) (off:=0) U H (sa (a:=txC A1 (Tx.G1 b).1.length c1 A2 (Tx.G2 b).1.length c2 ((Tx.G3 b).1:Int)) (m:=3) U) U U U U ta34 ts34) ?_)
   refine sf (e_call (wn U) U U Tryz.func49 U U U (checkTP (S:=(0<=·)) (t:=Tx.gotTx b) _ (by
     obtain ⟨SR,HR⟩:=parts_rep hPt Tx.ok_got.2.2
     rw [hgl] at HR
     exact mono_Tx _ _ _ _ _ (HR.holds _ (.head _)) (fun g _ _=>Nat.zero_le _))) ?_)
   rintro _ W2 ⟨rfl,hb2⟩
   clear hPt
   replace H:=H.below hb2
   clear hb2
   refine sAi U (ln (kQ (kR (sMi U (sNe U U (ln (kC U (fun hc43=>?_) (fun hc43=>?_))))))))
   ·have hne:Tx.chk (Tx.gotTx b)≠0:=by simpa using hc43
    refine kR (sR (dB (vs:=txC none 0 0 none 0 0 0) U (by kernel_rfl)) ?_)
    refine sMi U ?_
    refine sf (e_sto (wn U) U U U U U ts34 U H U ?_)
    clear H;intro W H
    refine sAi U (ln (kx ?_))
    have hge:Tx.get b=(Tx.zero,Tx.chk (Tx.gotTx b)):=by rw [Tx.get_eq];unfold Tx.fin;rw [if_pos he,if_neg hne]
    exact q_cell2 U (c:=txC none 0 0 none 0 0 0) (g:=go) (v:=.int .i64 (Tx.chk (Tx.gotTx b))) H U ta34 ts34 U ⟨_,U,_,by rw [hge],.inl ⟨by rw [hge];exact hne,U,H.under⟩⟩
   ·have hne:Tx.chk (Tx.gotTx b)=0:=by simpa using hc43
    refine kS (kR (sR (dM (g:=gt) (off:=0) U H (sa (a:=txC A1 (Tx.G1 b).1.length c1 A2 (Tx.G2 b).1.length c2 ((Tx.G3 b).1:Int)) (m:=3) U) U U U U ta34 ts34) ?_))
    refine sf (e_sto (wn U) U U U U U ts34 U H U ?_)
    clear H;intro W H
    refine sAi U (ln (kx ?_))
    have hge:Tx.get b=(Tx.gotTx b,0):=by rw [Tx.get_eq];unfold Tx.fin;rw [if_pos he,if_pos hne]
    refine q_cell2 U (c:=txC A1 (Tx.G1 b).1.length c1 A2 (Tx.G2 b).1.length c2 ((Tx.G3 b).1:Int)) (g:=go) (v:=.int .i64 0) H U ta34 ts34 U ⟨_,U,txC A1 (Tx.G1 b).1.length c1 A2 (Tx.G2 b).1.length c2 ((Tx.G3 b).1:Int),by rw [hge],.inr ⟨by rw [hge],?_⟩⟩
    rw [hge]
    dsimp only
    exact ⟨A1,c1,A2,c2,by rw [hgl];rfl,⟨r,A0,c0,_,xs,xs2,S3,S2,by rw [hgl];exact (H.perm ((List.perm_append_comm (l₁:=[_,_]) (l₂:=[_,_])).append (List.perm_middle (l₁:=[_,_]) (l₂:=[_])))).sub (L':=[_,_,_,_,_]) (by repeat (first|exact .refl _|exact List.nil_sublist _|refine .cons_cons _ ?_|refine .cons _ ?_))⟩⟩
  ·have he:¬Pk.rEnd (Tx.GW b (Tx.G1 b).1.length).2=0:=by simpa using hc39
   refine kS (kQ (kR (sMi U (sNe U U (ln (kT U (by simpa using he) ?_))))))
   refine kR (sR (dB (vs:=txC none 0 0 none 0 0 0) U (by kernel_rfl)) ?_)
   refine sMi U ?_
   refine sf (e_sto (wn U) U U U U U ts34 U H U ?_)
   clear H;intro W H
   refine sAi U (ln (kx ?_))
   have hne:=he
   have hge:Tx.get b=(Tx.zero,Pk.rEnd (Tx.GW b (Tx.G1 b).1.length).2):=by rw [Tx.get_eq];unfold Tx.fin;rw [if_neg he]
   exact q_cell2 U (c:=txC none 0 0 none 0 0 0) (g:=go) (v:=.int .i64 (Pk.rEnd (Tx.GW b (Tx.G1 b).1.length).2)) H U ta34 ts34 U ⟨_,U,_,by rw [hge],.inl ⟨by rw [hge];exact hne,U,H.under⟩⟩
end Go.Proofs.YtfhhfhdnhadooaaGreatDoor
