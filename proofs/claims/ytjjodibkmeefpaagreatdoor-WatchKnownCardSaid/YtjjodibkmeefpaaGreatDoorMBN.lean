import Derived.Test.YtjjodibkmeefpaaGreatDoorMBZ
set_option linter.unusedVariables false
set_option linter.unusedSimpArgs false

namespace Go.Proofs.YtjjodibkmeefpaaGreatDoor
open Go Go.RowKit

theorem own_at {W:World} {e s m c g i:Nat} {xs:List Value} {v:Value} (h:W.ownsRow 0 e s (.slice (some ⟨g,0,none⟩) m c) m xs) (hi:xs[i]?=some v) (hm:i<m*s):At W g i v:=by
 rcases h.2 with ⟨h3,_⟩|⟨g',cap,cur,hv,_,hh,h3,h4,h5,h6⟩
 ·cases h3
 ·cases hv
  refine ⟨cur.toList,e,by simpa using hh,?_⟩
  rw [←h6,List.getElem?_take_of_lt hm] at hi
  exact hi
theorem rbo_inB {W:World} {S SS:Nat->Prop} {v:Value} {b:List UInt8} (h:RBO W S [v] b) (hS:∀g,S g->SS g) (hl:b.length<=1000000000000):InB (fun g i=>SS g∧∃x,At W g i (.int .u8 x)) v:=by
 obtain ⟨-,v',hv,ho,hw⟩:=h
 cases hv
 obtain ⟨A,c,rfl,h1,h2⟩:=row_form ho
 refine ⟨A,b.length,c,rfl,hl,fun h0=>?_⟩
 obtain ⟨g,rfl⟩:=row_own ho h0
 refine ⟨g,0,rfl,fun j hj=>⟨hS g (hw g rfl),(b[j].toNat:Int),?_⟩⟩
 rw [Nat.zero_add]
 exact own_at ho (by rw [List.getElem?_map,List.getElem?_eq_getElem hj];rfl) (by omega)
section
variable {T:Nat->Prop} {w0 W:World} {L:List Fact}
theorem St.newz' {A B:Option Addr} {c d:Nat} {t:DTx} {xs ys:List Value} {S0 S1:Nat->Prop} {eI eO:Nat} (H:St T w0 W (Fact.row eI 34 (.slice A t.ins.length c) t.ins.length xs::Fact.els RInO 34 S0 xs t.ins::Fact.row eO 2 (.slice B t.outs.length d) t.outs.length ys::Fact.els ROutO 2 S1 ys t.outs::L)) (hk:I64 t.lock) (hn:t.ins.length<=1000000∧t.outs.length<=1000000) (hw:∀x∈t.ins,x.wit.length<=1000000∧∀b∈x.wit,b.length<=1000000000000) (hs:∀o∈t.outs,o.script.length<=1000000000000) :
  ∃S:Nat->Prop,(∀g,S g->ownB A t.ins.length c g∨ownB B t.outs.length d g∨S0 g∨S1 g)∧St T w0 W (Fact.z eI eO S A c B d t::L):=by
 have hI:W.ownsRow 0 eI 34 (.slice A t.ins.length c) t.ins.length xs:=H.holds _ (.head _)
 have hE:=H.holds (Fact.els RInO 34 S0 xs t.ins) (.tail _ (.head _))
 have hO:W.ownsRow 0 eO 2 (.slice B t.outs.length d) t.outs.length ys:=H.holds _ (.tail _ (.tail _ (.head _)))
 have hF:=H.holds (Fact.els ROutO 2 S1 ys t.outs) (.tail _ (.tail _ (.tail _ (.head _))))
 obtain ⟨SS,hSS⟩:∃SS:Nat->Prop,SS=(fun g=>S0 g∨S1 g):=⟨_,rfl⟩
 obtain ⟨KB,hKB⟩:∃KB:Nat->Nat->Prop,KB=(fun g i=>SS g∧∃x,At W g i (.int .u8 x)):=⟨_,rfl⟩
 obtain ⟨KN,hKN⟩:∃KN:Nat->Nat->Prop,KN=(fun g i=>SS g∧∃v,At W g i v∧InB KB v):=⟨_,rfl⟩
 have hsp:Sp SS KB KN W:=⟨fun g hg=>by
  rw [hSS] at hg
  rcases hg with hg|hg
  ·exact (H.own (Fact.els RInO 34 S0 xs t.ins) (.tail _ (.head _)) g hg).2
  ·exact (H.own (Fact.els ROutO 2 S1 ys t.outs) (.tail _ (.tail _ (.tail _ (.head _)))) g hg).2,fun g i hg=>by rw [hKB] at hg;exact hg,fun g i hg=>by rw [hKN] at hg;exact hg⟩
 have hI9:ShI KN xs t.ins.length:=fun i hi=>by
  obtain ⟨x,hx⟩:=get_lt (l:=t.ins) (i:=i) hi
  obtain ⟨q0,q1,e,hp,⟨hrl,v1,ws,rfl,hown,hS⟩⟩:=hE.2 i x hx
  obtain ⟨A1,c1,rfl,h1,h2⟩:=row_form hown
  obtain ⟨rfl,hp1,hp2⟩:=point_of hp
  have hwx:=hw x (List.mem_of_getElem? hx)
  refine ⟨x.point,A1,x.wit.length,c1,e,hp1,A1,x.wit.length,c1,rfl,by omega,fun h0=>?_⟩
  obtain ⟨g,rfl⟩:=row_own hown h0
  refine ⟨g,0,rfl,fun j hj=>?_⟩
  obtain ⟨A2,c2,zz,hv,_,_,hrd,hel⟩:=hrl
  cases hv
  obtain ⟨y,hy⟩:=get_lt (l:=x.wit) (i:=j) hj
  have hyo:=hel j y hy
  obtain ⟨⟨v,hv,-⟩,-⟩:=id hyo
  rw [hv] at hyo
  have hwl:j<ws.length:=by have:=hown.1;rw [Nat.mul_one] at this;omega
  have ha:=own_at hown (List.getElem?_eq_getElem hwl) (by omega)
  obtain ⟨g3,o3,e3,_,hc⟩:=hrd.2 (by omega)
  cases e3
  have hvi:zz[j]?=some v:=by
   have:=sub_get hv
   rwa [Nat.mul_one] at this
  have:=(hc j v hvi)
  rw [Nat.zero_add] at this
  have e4:=ha.cell.symm.trans this
  rw [Option.some.injEq] at e4
  rw [Nat.zero_add,hKN]
  refine ⟨by rw [hSS];exact .inl (hS g rfl),ws[j],ha,?_⟩
  rw [e4,hKB]
  exact rbo_inB hyo (fun g hg=>by rw [hSS];exact .inl hg) (hwx.2 y (List.mem_of_getElem? hy))
 have hO9:ShO KB ys t.outs.length:=fun i hi=>by
  obtain ⟨x,hx⟩:=get_lt (l:=t.outs) (i:=i) hi
  obtain ⟨q0,q1,e,⟨rfl,_⟩,hbo⟩:=hF.2 i x hx
  obtain ⟨⟨v,rfl,hb⟩,-⟩:=id hbo
  obtain ⟨B1,cb,rfl,_⟩:=hb.op
  refine ⟨x.value,B1,x.script.length,cb,e,?_⟩
  rw [hKB]
  exact rbo_inB hbo (fun g hg=>by rw [hSS];exact .inr hg) (hs x (List.mem_of_getElem? hx))
 have hap:=List.pairwise_cons.1 H.apart
 have hap2:=List.pairwise_cons.1 hap.2
 have hap3:=List.pairwise_cons.1 hap2.2
 have hr:RTx W (fun g=>ownB A t.ins.length c g∨ownB B t.outs.length d g∨SS g) (txC A t.ins.length c B t.outs.length d t.lock) t:=by
  obtain ⟨_,_,hv1,k1,k2⟩:=row_form hI
  cases hv1
  obtain ⟨_,_,hv2,k3,k4⟩:=row_form hO
  cases hv2
  have H2:=(H.tolist.perm (.trans (.swap _ _ _) (.cons _ (.swap _ _ _)))).tolist
  have hI2:RL 34 RInO W (fun g=>ownB A t.ins.length c g∨S0 g) [.slice A t.ins.length c] t.ins:=H2.holds _ (.tail _ (.head _))
  have hO2:RL 2 ROutO W (fun g=>ownB B t.outs.length d g∨S1 g) [.slice B t.outs.length d] t.outs:=H2.holds _ (.head _)
  refine ⟨[.slice A t.ins.length c],[.slice B t.outs.length d],_,rfl,?_,?_,rfl,hk⟩
  ·refine rl_conv hI2 (fun g hg=>by rw [hSS];exact hg.elim .inl (fun h=>.inr (.inr (.inl h)))) (fun cs x h=>?_)
   exact mono_In _ _ _ _ _ (in_plain h) (fun g _ hg=>by rw [hSS];exact hg.elim .inl (fun h=>.inr (.inr (.inl h))))
  ·refine rl_conv hO2 (fun g hg=>by rw [hSS];exact hg.elim (fun h=>.inr (.inl h)) (fun h=>.inr (.inr (.inr h)))) (fun cs x h=>?_)
   exact mono_Out _ _ _ _ _ (out_plain h) (fun g _ hg=>by rw [hSS];exact hg.elim (fun h=>.inr (.inl h)) (fun h=>.inr (.inr (.inr h))))
 have hz:Zp eI eO (fun g=>ownB A t.ins.length c g∨ownB B t.outs.length d g∨SS g) A c B d t W:=by
  refine ⟨hr,hn,xs,ys,SS,KB,KN,hI,hO,hsp,hI9,hO9,fun g hg=>⟨.inl hg,hap.1 (Fact.row eO 2 (.slice B t.outs.length d) t.outs.length ys) (.tail _ (.head _)) g hg,fun e=>?_⟩,fun g hg=>⟨.inr (.inl hg),fun e=>?_⟩,fun g hg=>.inr (.inr hg)⟩
  ·rw [hSS] at e
   rcases e with e|e
   ·exact hap.1 (Fact.els RInO 34 S0 xs t.ins) (.head _) g hg e
   ·exact hap.1 (Fact.els ROutO 2 S1 ys t.outs) (.tail _ (.tail _ (.head _))) g hg e
  ·rw [hSS] at e
   rcases e with e|e
   ·exact hap2.1 (Fact.row eO 2 (.slice B t.outs.length d) t.outs.length ys) (.head _) g e hg
   ·exact hap3.1 (Fact.els ROutO 2 S1 ys t.outs) (.head _) g hg e
 have H5:=H.two.two.two
 exact ⟨_,fun g hg=>by rw [hSS] at hg;exact hg,H5.turn0 (f':=Fact.z eI eO _ A c B d t) Fr.refl hz (fun g hg=>.inl (by
  rw [hSS] at hg
  rcases hg with hg|hg|hg|hg
  ·exact .inl (.inl (.inl hg))
  ·exact .inl (.inr hg)
  ·exact .inl (.inl (.inr hg))
  ·exact .inr hg))⟩
end
end Go.Proofs.YtjjodibkmeefpaaGreatDoor
