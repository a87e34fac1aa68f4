import Derived.Test.YtjjodibkmeefpaaGreatDoorMX
import Derived.Test.YtjjodibkmeefpaaGreatDoorMY
import Derived.Test.YtjjodibkmeefpaaGreatDoorMBL
import Derived.Test.YtjjodibkmeefpaaGreatDoorML
set_option linter.unusedVariables false
set_option linter.unusedSimpArgs false

namespace Go.Proofs.YtjjodibkmeefpaaGreatDoor
open Go Go.RowKit

def RLO {α:Type} (e s:Nat) (R:Rep α):Rep (List α):=fun W S cs l=>RL s R W S cs l∧∃v xs,cs=[v]∧W.ownsRow 0 e s v l.length xs∧∀g,v.ownBlock=some g->S g
theorem own_lt {W:World} {e s n:Nat} {v:Value} {xs:List Value} {g:Nat} (h:W.ownsRow 0 e s v n xs) (hg:v.ownBlock=some g):g<W.heap.size:=by
 rcases h.2 with ⟨rfl,_⟩|⟨g',cap,cur,rfl,_,hh,_⟩
 ·cases hg
 ·obtain rfl:g'=g:=by simpa [Value.ownBlock] using hg
  exact (List.getElem?_eq_some_iff.1 (by simpa using hh)).1
instance repk_LO {α:Type} {e s:Nat} {R:Rep α} [h:RepK R]:RepK (RLO e s R):=⟨fun W W' S cs a h1 k=>by
 obtain ⟨h2,v,xs,e1,e2,e3⟩:=h1
 exact ⟨keeps_L h.keeps _ _ _ _ _ h2 k,v,xs,e1,ownsRow_keep e2 (fun g hg=>k g (own_lt e2 hg) (e3 g hg)),e3⟩,fun W S S' cs a h1 k=>by
 obtain ⟨h2,v,xs,e1,e2,e3⟩:=h1
 exact ⟨mono_L h.mono _ _ _ _ _ h2 k,v,xs,e1,e2,fun g hg=>k g (own_lt e2 hg) (e3 g hg)⟩⟩
theorem St.tolistO {α:Type} {R:Rep α} {T:Nat->Prop} {w0 W:World} {L:List Fact} {e s c:Nat} {A:Option Addr} {S:Nat->Prop} {xs:List Value} {l:List α} [h:RepK R] (H:St T w0 W (Fact.row e s (.slice A l.length c) l.length xs::Fact.els R s S xs l::L)):St T w0 W (Fact.rep (RLO e s R) (fun g=>(Value.slice A l.length c).ownBlock=some g∨S g) [.slice A l.length c] l::L):=by
 have h1:W.ownsRow 0 e s (.slice A l.length c) l.length xs:=H.holds _ (.head _)
 have h2:=H.tolist.holds _ (.head _)
 exact H.merge (F:=Fact.rep (RLO e s R) _ _ l) ⟨h2,_,xs,rfl,h1,fun g hg=>.inl hg⟩ (fun g hg=>hg)
def RBO:Rep (List UInt8):=fun W S cs b=>RB W S cs b∧∃v,cs=[v]∧W.ownsRow 0 5 1 v b.length (b.map u8v)∧∀g,v.ownBlock=some g->S g
instance repk_BO:RepK RBO:=⟨fun W W' S cs a h1 k=>by
 obtain ⟨h2,v,e1,e2,e3⟩:=h1
 exact ⟨keeps_B _ _ _ _ _ h2 k,v,e1,ownsRow_keep e2 (fun g hg=>k g (own_lt e2 hg) (e3 g hg)),e3⟩,fun W S S' cs a h1 k=>by
 obtain ⟨⟨v0,h3,h4⟩,v,e1,e2,e3⟩:=h1
 exact ⟨⟨v0,h3,h4.mono (fun g hg h=>k g hg h)⟩,v,e1,e2,fun g hg=>k g (own_lt e2 hg) (e3 g hg)⟩⟩
def RInO:Rep DIn:=fun W S cs x=>∃c0 c1,cs=c0++c1∧RPoint W S c0 x.point∧RLO 23 1 RBO W S c1 x.wit
def ROutO:Rep DOut:=fun W S cs x=>∃c0 c1,cs=c0++c1∧RI W S c0 x.value∧RBO W S c1 x.script
instance repk_InO:RepK RInO:=⟨fun W W' S cs a h k=>by
 obtain ⟨c0,c1,h0,e0,e1⟩:=h
 exact ⟨c0,c1,h0,keeps_Point _ _ _ _ _ e0 k,repk_LO.keeps _ _ _ _ _ e1 k⟩,fun W S S' cs a h k=>by
 obtain ⟨c0,c1,h0,e0,e1⟩:=h
 exact ⟨c0,c1,h0,mono_Point _ _ _ _ _ e0 k,repk_LO.mono _ _ _ _ _ e1 k⟩⟩
instance repk_OutO:RepK ROutO:=⟨fun W W' S cs a h k=>by
 obtain ⟨c0,c1,h0,e0,e1⟩:=h
 exact ⟨c0,c1,h0,e0,repk_BO.keeps _ _ _ _ _ e1 k⟩,fun W S S' cs a h k=>by
 obtain ⟨c0,c1,h0,e0,e1⟩:=h
 exact ⟨c0,c1,h0,e0,repk_BO.mono _ _ _ _ _ e1 k⟩⟩
theorem St.torbO {T:Nat->Prop} {w0 W:World} {L:List Fact} {m c:Nat} {A:Option Addr} {l:List UInt8} (H:St T w0 W (Fact.row 5 1 (.slice A m c) m (l.map u8v)::L)) (hm:l.length=m):St T w0 W (Fact.rep RBO (fun g=>(Value.slice A m c).ownBlock=some g) [.slice A m c] l::L):=by
 have h1:W.ownsRow 0 5 1 (.slice A m c) m (l.map u8v):=H.holds _ (.head _)
 have h2:=(H.torb hm).holds _ (.head _)
 subst hm
 exact H.turn0 (f':=Fact.rep RBO _ _ l) Fr.refl ⟨h2,_,rfl,h1,fun g hg=>hg⟩ (fun g hg=>.inl hg)
theorem in_repO {W:World} {S:Nat->Prop} {p:DPoint} {A:Option Addr} {c:Nat} {w:List (List UInt8)} (h:p.tx.length=32) (hn:I64 p.n) (hw:RLO 23 1 RBO W S [.slice A w.length c] w):RInO W S (inC p A w.length c) ⟨p,w⟩:=⟨_,_,rfl,point_rep h hn,hw⟩
theorem out_repO {W:World} {S:Nat->Prop} {s:List UInt8} {v:Int} {A:Option Addr} {c:Nat} (hn:I64 v) (hb:RBO W S [.slice A s.length c] s):ROutO W S (outC v A s.length c) ⟨v,s⟩:=⟨_,_,rfl,⟨rfl,hn⟩,hb⟩
theorem in_plain {W:World} {S:Nat->Prop} {cs:List Value} {x:DIn} (h:RInO W S cs x):RIn W S cs x:=by
 obtain ⟨c0,c1,rfl,h0,h1⟩:=h
 exact ⟨c0,c1,rfl,h0,rl_conv h1.1 (fun _ h=>h) (fun _ _ h=>h.1)⟩
theorem out_plain {W:World} {S:Nat->Prop} {cs:List Value} {x:DOut} (h:ROutO W S cs x):ROut W S cs x:=by
 obtain ⟨c0,c1,rfl,h0,h1⟩:=h
 exact ⟨c0,c1,rfl,h0,h1.1⟩
abbrev celS (W:World) (S:Nat->Prop):Nat->Prop:=fun g=>S g∧isC W g
theorem own_cel {W:World} {e s m:Nat} {v:Value} {xs:List Value} {S:Nat->Prop} (h:W.ownsRow 0 e s v m xs) (hS:∀g,v.ownBlock=some g->S g):∀g,v.ownBlock=some g->celS W S g:=fun g hg=>⟨hS g hg,own_isC h hg⟩
theorem rd_own {W:World} {e s m c:Nat} {A:Option Addr} {xs:List Value} {S:Nat->Prop} (h:W.ownsRow 0 e s (.slice A m c) m xs) (hS:∀g,(Value.slice A m c).ownBlock=some g->S g):Rd W S s A m xs:=(Rd.of_own h).swap (fun hn a ha=>by subst ha;exact hS _ rfl)
theorem point_rep' {W:World} {S S':Nat->Prop} {cs:List Value} {p:DPoint} (h:RPoint W S cs p):RPoint W S' cs p:=by
 obtain ⟨rfl,h1,h2⟩:=point_of h
 exact point_rep h1 h2
theorem rd_eq {W:World} {S S':Nat->Prop} {s n:Nat} {A:Option Addr} {xs ys:List Value} (h:Rd W S s A n xs) (k:Rd W S' s A n ys) (hn:0<n):xs=ys:=by
 obtain ⟨g,o,rfl,_,h3⟩:=h.2 hn
 obtain ⟨g',o',e,_,k3⟩:=k.2 hn
 cases e
 apply List.ext_getElem?
 intro i
 have h1:=h.1;have k1:=k.1
 by_cases hi:i<xs.length
 ·have e1:=h3 i _ (List.getElem?_eq_getElem hi)
  have e2:=k3 i _ (List.getElem?_eq_getElem (show i<ys.length by omega))
  rw [e1] at e2
  rw [List.getElem?_eq_getElem hi,List.getElem?_eq_getElem (show i<ys.length by omega)]
  exact e2
 ·rw [List.getElem?_eq_none (by omega),List.getElem?_eq_none (by omega)]
theorem rbo_cel {W:World} {S:Nat->Prop} {cs:List Value} {b:List UInt8} (h:RBO W S cs b):RBO W (celS W S) cs b:=by
 obtain ⟨-,v,rfl,ho,hS⟩:=h
 obtain ⟨A,c,rfl,_,_⟩:=row_form ho
 exact ⟨⟨_,rfl,(bs_own ho rfl).mono (fun g _ hg=>own_cel ho hS g hg)⟩,_,rfl,ho,own_cel ho hS⟩
theorem in_cel {W:World} {S:Nat->Prop} {cs:List Value} {x:DIn} (h:RInO W S cs x):RInO W (celS W S) cs x:=by
 obtain ⟨c0,c1,rfl,h0,h1,v,xs,rfl,ho,hS⟩:=h
 obtain ⟨A,c,zs,hv,hc1,hc2,hr,he⟩:=h1
 cases hv
 refine ⟨c0,_,rfl,point_rep' h0,⟨A,c,xs,rfl,hc1,hc2,rd_own ho (own_cel ho hS),fun i y hy=>?_⟩,_,xs,rfl,ho,own_cel ho hS⟩
 have e:zs=xs:=by
  rcases Nat.eq_zero_or_pos x.wit.length with h0|h0
  ·have h1:=hr.1;have h2:=ho.1
   rw [h0] at h1 h2
   rw [List.eq_nil_of_length_eq_zero (by omega:zs.length=0),List.eq_nil_of_length_eq_zero (by omega:xs.length=0)]
  ·exact rd_eq hr (rd_own ho hS) h0
 rw [←e]
 exact rbo_cel (he i y hy)
theorem out_cel {W:World} {S:Nat->Prop} {cs:List Value} {x:DOut} (h:ROutO W S cs x):ROutO W (celS W S) cs x:=by
 obtain ⟨c0,c1,rfl,h0,h1⟩:=h
 exact ⟨c0,c1,rfl,h0,rbo_cel h1⟩
def Fact.repc {α:Type} (R:Rep α) [h:RepK R] (S:Nat->Prop) (cs:List Value) (a:α):Fact:=⟨S,fun W=>R W S cs a∧∀g,S g->isC W g,fun _ _ h' k=>⟨h.keeps _ _ _ _ _ h'.1 (fun g _ hg=>k g hg),fun g hg=>(h'.2 g hg).keep (k g hg)⟩⟩
section
variable {T:Nat->Prop} {w0 W:World} {L:List Fact}
theorem St.newc {A B:Option Addr} {c d:Nat} {t:DTx} {xs ys:List Value} {S0 S1:Nat->Prop} {eI eO:Nat} (H:St T w0 W (Fact.row eI 34 (.slice A t.ins.length c) t.ins.length xs::Fact.els RInO 34 S0 xs t.ins::Fact.row eO 2 (.slice B t.outs.length d) t.outs.length ys::Fact.els ROutO 2 S1 ys t.outs::L)) (hk:I64 t.lock) :
  ∃S,St T w0 W (Fact.repc RTx S (txC A t.ins.length c B t.outs.length d t.lock) t::L):=by
 have hI:W.ownsRow 0 eI 34 (.slice A t.ins.length c) t.ins.length xs:=H.holds _ (.head _)
 have hE:=H.holds (Fact.els RInO 34 S0 xs t.ins) (.tail _ (.head _))
 have hO:W.ownsRow 0 eO 2 (.slice B t.outs.length d) t.outs.length ys:=H.holds _ (.tail _ (.tail _ (.head _)))
 have hF:=H.holds (Fact.els ROutO 2 S1 ys t.outs) (.tail _ (.tail _ (.tail _ (.head _))))
 obtain ⟨_,_,hv1,k1,k2⟩:=row_form hI
 cases hv1
 obtain ⟨_,_,hv2,k3,k4⟩:=row_form hO
 cases hv2
 obtain ⟨SS,hSS⟩:∃SS:Nat->Prop,SS=celS W (fun g=>(((Value.slice A t.ins.length c).ownBlock=some g∨S0 g)∨(Value.slice B t.outs.length d).ownBlock=some g)∨S1 g):=⟨_,rfl⟩
 have hr:RTx W SS (txC A t.ins.length c B t.outs.length d t.lock) t:=by
  refine tx_rep (l:=t.ins) (r:=t.outs) ⟨A,c,xs,rfl,k1,k2,rd_own hI (fun g hg=>by rw [hSS];exact ⟨.inl (.inl (.inl hg)),own_isC hI hg⟩),fun i x hx=>?_⟩ ⟨B,d,ys,rfl,k3,k4,rd_own hO (fun g hg=>by rw [hSS];exact ⟨.inl (.inr hg),own_isC hO hg⟩),fun i x hx=>?_⟩ hk
  ·exact in_plain (repk_InO.mono _ _ _ _ _ (in_cel (hE.2 i x hx)) (fun g _ hg=>by rw [hSS];exact ⟨.inl (.inl (.inr hg.1)),hg.2⟩))
  ·exact out_plain (repk_OutO.mono _ _ _ _ _ (out_cel (hF.2 i x hx)) (fun g _ hg=>by rw [hSS];exact ⟨.inr hg.1,hg.2⟩))
 have H5:=H.two.two.two
 exact ⟨SS,H5.turn0 (f':=Fact.repc RTx SS _ t) Fr.refl ⟨hr,fun g hg=>by rw [hSS] at hg;exact hg.2⟩ (fun g hg=>.inl (by rw [hSS] at hg;exact hg.1))⟩
end
end Go.Proofs.YtjjodibkmeefpaaGreatDoor
