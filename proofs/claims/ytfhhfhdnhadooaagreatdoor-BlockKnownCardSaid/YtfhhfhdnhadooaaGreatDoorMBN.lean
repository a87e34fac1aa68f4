import Derived.Test.YtfhhfhdnhadooaaGreatDoorMBZ
import Derived.Test.YtfhhfhdnhadooaaGreatDoorMBM
set_option linter.unusedVariables false
set_option linter.unusedSimpArgs false
set_option maxHeartbeats 4000000

namespace Go.Proofs.YtfhhfhdnhadooaaGreatDoor
open Go Go.RowKit

def RBO:Rep (List UInt8):=fun W S cs b=>RB W S cs b∧∃v,cs=[v]∧W.ownsRow 0 5 1 v b.length (b.map u8v)∧∀g,v.ownBlock=some g->S g
instance repk_BO:RepK RBO:=⟨fun W W' S cs a h1 k=>by
 obtain ⟨h2,v,e1,e2,e3⟩:=h1
 exact ⟨keeps_B _ _ _ _ _ h2 k,v,e1,ownsRow_keep e2 (fun g hg=>k g (own_lt e2 hg) (e3 g hg)),e3⟩,fun W S S' cs a h1 k=>by
 obtain ⟨⟨v0,h3,h4⟩,v,e1,e2,e3⟩:=h1
 exact ⟨⟨v0,h3,h4.mono (fun g hg h=>k g hg h)⟩,v,e1,e2,fun g hg=>k g (own_lt e2 hg) (e3 g hg)⟩⟩
def RInO:Rep DIn:=fun W S cs x=>∃c0 c1,cs=c0++c1∧RPoint W S c0 x.point∧RLO 41 1 RBO W S c1 x.wit
def ROutO:Rep DOut:=fun W S cs x=>∃c0 c1,cs=c0++c1∧RI W S c0 x.value∧RBO W S c1 x.script
instance repk_InO:RepK RInO:=⟨fun W W' S cs a h k=>by
 obtain ⟨c0,c1,h0,e0,e1⟩:=h
 exact ⟨c0,c1,h0,keeps_Point _ _ _ _ _ e0 k,repk_LO.keeps _ _ _ _ _ e1 k⟩,fun W S S' cs a h k=>by
 obtain ⟨c0,c1,h0,e0,e1⟩:=h
 exact ⟨c0,c1,h0,mono_Point _ _ _ _ _ e0 k,repk_LO.mono _ _ _ _ _ e1 k⟩⟩
instance repk_OutO:RepK ROutO:=⟨fun W W' S cs a h k=>by
 obtain ⟨c0,c1,h0,e0,e1⟩:=h
 exact ⟨c0,c1,h0,e0,repk_BO.keeps _ _ _ _ _ e1 k⟩,fun W S S' cs a h k=>by
 obtain ⟨c0,c1,h0,e0,e1⟩:=h
 exact ⟨c0,c1,h0,e0,repk_BO.mono _ _ _ _ _ e1 k⟩⟩
theorem St.torbO {T:Nat->Prop} {w0 W:World} {L:List Fact} {m c:Nat} {A:Option Addr} {l:List UInt8} (H:St T w0 W (Fact.row 5 1 (.slice A m c) m (l.map u8v)::L)) (hm:l.length=m):St T w0 W (Fact.rep RBO (fun g=>(Value.slice A m c).ownBlock=some g) [.slice A m c] l::L):=by
 have h1:W.ownsRow 0 5 1 (.slice A m c) m (l.map u8v):=H.holds _ (.head _)
 have h2:=(H.torb hm).holds _ (.head _)
 subst hm
 exact H.turn0 (f':=Fact.rep RBO _ _ l) Fr.refl ⟨h2,_,rfl,h1,fun g hg=>hg⟩ (fun g hg=>.inl hg)
theorem in_repO {W:World} {S:Nat->Prop} {p:DPoint} {A:Option Addr} {c:Nat} {w:List (List UInt8)} (h:p.tx.length=32) (hn:I64 p.n) (hw:RLO 41 1 RBO W S [.slice A w.length c] w):RInO W S (inC p A w.length c) ⟨p,w⟩:=⟨_,_,rfl,point_rep h hn,hw⟩
theorem out_repO {W:World} {S:Nat->Prop} {s:List UInt8} {v:Int} {A:Option Addr} {c:Nat} (hn:I64 v) (hb:RBO W S [.slice A s.length c] s):ROutO W S (outC v A s.length c) ⟨v,s⟩:=⟨_,_,rfl,⟨rfl,hn⟩,hb⟩
theorem in_plain {W:World} {S:Nat->Prop} {cs:List Value} {x:DIn} (h:RInO W S cs x):RIn W S cs x:=by
 obtain ⟨c0,c1,rfl,h0,h1⟩:=h
 exact ⟨c0,c1,rfl,h0,rl_conv h1.1 (fun _ h=>h) (fun _ _ h=>h.1)⟩
theorem out_plain {W:World} {S:Nat->Prop} {cs:List Value} {x:DOut} (h:ROutO W S cs x):ROut W S cs x:=by
 obtain ⟨c0,c1,rfl,h0,h1⟩:=h
 exact ⟨c0,c1,rfl,h0,h1.1⟩
theorem own_at {W:World} {e s m c g i:Nat} {xs:List Value} {v:Value} (h:W.ownsRow 0 e s (.slice (some ⟨g,0,none⟩) m c) m xs) (hi:xs[i]?=some v) (hm:i<m*s):At W g i v:=by
 rcases h.2 with ⟨h3,_⟩|⟨g',cap,cur,hv,_,hh,h3,h4,h5,h6⟩
 ·cases h3
 ·cases hv
  refine ⟨cur.toList,e,by simpa using hh,?_⟩
  rw [←h6,List.getElem?_take_of_lt hm] at hi
  exact hi
theorem rbo_inB {W:World} {S SS:Nat->Prop} {v:Value} {b:List UInt8} (h:RBO W S [v] b) (hS:∀g,S g->SS g) (hl:b.length<=1000000000000):InB (fun g i=>SS g∧∃x,At W g i (.int .u8 x)) v:=by
 obtain ⟨-,v',hv,ho,hw⟩:=h
 cases hv
 obtain ⟨A,c,rfl,h1,h2⟩:=row_form ho
 refine ⟨A,b.length,c,rfl,hl,fun h0=>?_⟩
 obtain ⟨g,rfl⟩:=row_own ho h0
 refine ⟨g,0,rfl,fun j hj=>⟨hS g (hw g rfl),(b[j].toNat:Int),?_⟩⟩
 rw [Nat.zero_add]
 exact own_at ho (by rw [List.getElem?_map,List.getElem?_eq_getElem hj];rfl) (by omega)
section
variable {T:Nat->Prop} {w0 W:World} {L:List Fact}
theorem St.newz' {A B:Option Addr} {c d:Nat} {t:DTx} {xs ys:List Value} {S0 S1:Nat->Prop} {eI eO:Nat} (H:St T w0 W (Fact.row eI 34 (.slice A t.ins.length c) t.ins.length xs::Fact.els RInO 34 S0 xs t.ins::Fact.row eO 2 (.slice B t.outs.length d) t.outs.length ys::Fact.els ROutO 2 S1 ys t.outs::L)) (hk:I64 t.lock) (hn:t.ins.length<=1000000∧t.outs.length<=1000000) (hw:∀x∈t.ins,x.wit.length<=1000000∧∀b∈x.wit,b.length<=1000000000000) (hs:∀o∈t.outs,o.script.length<=1000000000000) :
  ∃S:Nat->Prop,(∀g,S g->ownB A t.ins.length c g∨ownB B t.outs.length d g∨S0 g∨S1 g)∧St T w0 W (Fact.z eI eO S A c B d t::L):=by
 have hI:W.ownsRow 0 eI 34 (.slice A t.ins.length c) t.ins.length xs:=H.holds _ (.head _)
 have hE:=H.holds (Fact.els RInO 34 S0 xs t.ins) (.tail _ (.head _))
 have hO:W.ownsRow 0 eO 2 (.slice B t.outs.length d) t.outs.length ys:=H.holds _ (.tail _ (.tail _ (.head _)))
 have hF:=H.holds (Fact.els ROutO 2 S1 ys t.outs) (.tail _ (.tail _ (.tail _ (.head _))))
 obtain ⟨SS,hSS⟩:∃SS:Nat->Prop,SS=(fun g=>S0 g∨S1 g):=⟨_,rfl⟩
 obtain ⟨KB,hKB⟩:∃KB:Nat->Nat->Prop,KB=(fun g i=>SS g∧∃x,At W g i (.int .u8 x)):=⟨_,rfl⟩
 obtain ⟨KN,hKN⟩:∃KN:Nat->Nat->Prop,KN=(fun g i=>SS g∧∃v,At W g i v∧InB KB v):=⟨_,rfl⟩
 have hsp:Sp SS KB KN W:=⟨fun g hg=>by
  rw [hSS] at hg
  rcases hg with hg|hg
  ·exact (H.own (Fact.els RInO 34 S0 xs t.ins) (.tail _ (.head _)) g hg).2
  ·exact (H.own (Fact.els ROutO 2 S1 ys t.outs) (.tail _ (.tail _ (.tail _ (.head _)))) g hg).2,fun g i hg=>by rw [hKB] at hg;exact hg,fun g i hg=>by rw [hKN] at hg;exact hg⟩
 have hI9:ShI KN xs t.ins.length:=fun i hi=>by
  obtain ⟨x,hx⟩:=get_lt (l:=t.ins) (i:=i) hi
  obtain ⟨q0,q1,e,hp,⟨hrl,v1,ws,rfl,hown,hS⟩⟩:=hE.2 i x hx
  obtain ⟨A1,c1,rfl,h1,h2⟩:=row_form hown
  obtain ⟨rfl,hp1,hp2⟩:=point_of hp
  have hwx:=hw x (List.mem_of_getElem? hx)
  refine ⟨x.point,A1,x.wit.length,c1,e,hp1,A1,x.wit.length,c1,rfl,by omega,fun h0=>?_⟩
  obtain ⟨g,rfl⟩:=row_own hown h0
  refine ⟨g,0,rfl,fun j hj=>?_⟩
  obtain ⟨A2,c2,zz,hv,_,_,hrd,hel⟩:=hrl
  cases hv
  obtain ⟨y,hy⟩:=get_lt (l:=x.wit) (i:=j) hj
  have hyo:=hel j y hy
  obtain ⟨⟨v,hv,-⟩,-⟩:=id hyo
  rw [hv] at hyo
  have hwl:j<ws.length:=by have:=hown.1;rw [Nat.mul_one] at this;omega
  have ha:=own_at hown (List.getElem?_eq_getElem hwl) (by omega)
  obtain ⟨g3,o3,e3,_,hc⟩:=hrd.2 (by omega)
  cases e3
  have hvi:zz[j]?=some v:=by
   have:=sub_get hv
   rwa [Nat.mul_one] at this
  have:=(hc j v hvi)
  rw [Nat.zero_add] at this
  have e4:=ha.cell.symm.trans this
  rw [Option.some.injEq] at e4
  rw [Nat.zero_add,hKN]
  refine ⟨by rw [hSS];exact .inl (hS g rfl),ws[j],ha,?_⟩
  rw [e4,hKB]
  exact rbo_inB hyo (fun g hg=>by rw [hSS];exact .inl hg) (hwx.2 y (List.mem_of_getElem? hy))
 have hO9:ShO KB ys t.outs.length:=fun i hi=>by
  obtain ⟨x,hx⟩:=get_lt (l:=t.outs) (i:=i) hi
  obtain ⟨q0,q1,e,⟨rfl,_⟩,hbo⟩:=hF.2 i x hx
  obtain ⟨⟨v,rfl,hb⟩,-⟩:=id hbo
  obtain ⟨B1,cb,rfl,_⟩:=hb.op
  refine ⟨x.value,B1,x.script.length,cb,e,?_⟩
  rw [hKB]
  exact rbo_inB hbo (fun g hg=>by rw [hSS];exact .inr hg) (hs x (List.mem_of_getElem? hx))
 have hap:=List.pairwise_cons.1 H.apart
 have hap2:=List.pairwise_cons.1 hap.2
 have hap3:=List.pairwise_cons.1 hap2.2
 have hr:RTx W (fun g=>ownB A t.ins.length c g∨ownB B t.outs.length d g∨SS g) (txC A t.ins.length c B t.outs.length d t.lock) t:=by
  obtain ⟨_,_,hv1,k1,k2⟩:=row_form hI
  cases hv1
  obtain ⟨_,_,hv2,k3,k4⟩:=row_form hO
  cases hv2
  have H2:=(H.tolist.perm (.trans (.swap _ _ _) (.cons _ (.swap _ _ _)))).tolist
  have hI2:RL 34 RInO W (fun g=>ownB A t.ins.length c g∨S0 g) [.slice A t.ins.length c] t.ins:=H2.holds _ (.tail _ (.head _))
  have hO2:RL 2 ROutO W (fun g=>ownB B t.outs.length d g∨S1 g) [.slice B t.outs.length d] t.outs:=H2.holds _ (.head _)
  refine ⟨[.slice A t.ins.length c],[.slice B t.outs.length d],_,rfl,?_,?_,rfl,hk⟩
  ·refine rl_conv hI2 (fun g hg=>by rw [hSS];exact hg.elim .inl (fun h=>.inr (.inr (.inl h)))) (fun cs x h=>?_)
   exact mono_In _ _ _ _ _ (in_plain h) (fun g _ hg=>by rw [hSS];exact hg.elim .inl (fun h=>.inr (.inr (.inl h))))
  ·refine rl_conv hO2 (fun g hg=>by rw [hSS];exact hg.elim (fun h=>.inr (.inl h)) (fun h=>.inr (.inr (.inr h)))) (fun cs x h=>?_)
   exact mono_Out _ _ _ _ _ (out_plain h) (fun g _ hg=>by rw [hSS];exact hg.elim (fun h=>.inr (.inl h)) (fun h=>.inr (.inr (.inr h))))
 have hz:Zp eI eO (fun g=>ownB A t.ins.length c g∨ownB B t.outs.length d g∨SS g) A c B d t W:=by
  refine ⟨hr,hn,xs,ys,SS,KB,KN,hI,hO,hsp,hI9,hO9,fun g hg=>⟨.inl hg,hap.1 (Fact.row eO 2 (.slice B t.outs.length d) t.outs.length ys) (.tail _ (.head _)) g hg,fun e=>?_⟩,fun g hg=>⟨.inr (.inl hg),fun e=>?_⟩,fun g hg=>.inr (.inr hg)⟩
  ·rw [hSS] at e
   rcases e with e|e
   ·exact hap.1 (Fact.els RInO 34 S0 xs t.ins) (.head _) g hg e
   ·exact hap.1 (Fact.els ROutO 2 S1 ys t.outs) (.tail _ (.tail _ (.head _))) g hg e
  ·rw [hSS] at e
   rcases e with e|e
   ·exact hap2.1 (Fact.row eO 2 (.slice B t.outs.length d) t.outs.length ys) (.head _) g e hg
   ·exact hap3.1 (Fact.els ROutO 2 S1 ys t.outs) (.head _) g hg e
 have H5:=H.two.two.two
 exact ⟨_,fun g hg=>by rw [hSS] at hg;exact hg,H5.turn0 (f':=Fact.z eI eO _ A c B d t) Fr.refl hz (fun g hg=>.inl (by
  rw [hSS] at hg
  rcases hg with hg|hg|hg|hg
  ·exact .inl (.inl (.inl hg))
  ·exact .inl (.inr hg)
  ·exact .inl (.inl (.inr hg))
  ·exact .inr hg))⟩
theorem St.newz {A B:Option Addr} {c d:Nat} {t:DTx} {xs ys:List Value} {S0 S1:Nat->Prop} {eI eO:Nat} (H:St T w0 W (Fact.row eI 34 (.slice A t.ins.length c) t.ins.length xs::Fact.els RInO 34 S0 xs t.ins::Fact.row eO 2 (.slice B t.outs.length d) t.outs.length ys::Fact.els ROutO 2 S1 ys t.outs::L)) (hk:I64 t.lock) (hn:t.ins.length<=1000000∧t.outs.length<=1000000) (hw:∀x∈t.ins,x.wit.length<=1000000∧∀b∈x.wit,b.length<=1000000000000) (hs:∀o∈t.outs,o.script.length<=1000000000000) :
  ∃S,St T w0 W (Fact.z eI eO S A c B d t::L):=let ⟨S,_,h⟩:=H.newz' hk hn hw hs;⟨S,h⟩
end
end Go.Proofs.YtfhhfhdnhadooaaGreatDoor

namespace Go.Proofs.YtfhhfhdnhadooaaGreatDoor
open Go Go.RowKit
attribute [local irreducible] wpList

def NewTxO (w:World) (t:DTx) (v:Value) (w':World):Prop:=∃A c B d xs ys S0 S1,v=.agg (txC A t.ins.length c B t.outs.length d t.lock).toArray∧(t.ins.length<=c∧c<=9223372036854775807)∧(t.outs.length<=d∧d<=9223372036854775807)∧St nT w w' [Fact.row 64 34 (.slice A t.ins.length c) t.ins.length xs,Fact.els RInO 34 S0 xs t.ins,Fact.row 66 2 (.slice B t.outs.length d) t.outs.length ys,Fact.els ROutO 2 S1 ys t.outs]
structure Tx.FitZ (t:DTx):Prop where
 fits:Tx.Fits t
 n:t.ins.length<=1000000∧t.outs.length<=1000000
 w:∀x∈t.ins,x.wit.length<=1000000∧∀b∈x.wit,b.length<=1000000000000
 s:∀o∈t.outs,o.script.length<=1000000000000
theorem Tx.fitz {t:DTx} (h:Tx.Small 20 2048 t):Tx.FitZ t:=⟨Tx.fits h (by decide) (by decide),⟨by have:=h.ins;omega,by have:=h.outs;omega⟩,fun x hx=>⟨by have:=(h.wit x hx).1;omega,fun b hb=>by have:=(h.wit x hx).2 b hb;omega⟩,fun o ho=>by have:=h.scr o ho;omega⟩
theorem NewTxO.z {w W W':World} {T:Nat->Prop} {L:List Fact} {t:DTx} {v:Value} (h:NewTxO W t v W') (H:St T w W L) (hk:I64 t.lock) (hf:Tx.FitZ t):∃S A c B d,v=.agg (txC A t.ins.length c B t.outs.length d t.lock).toArray∧St T w W' (Fact.z 64 66 S A c B d t::L):=by
 obtain ⟨A,c,B,d,xs,ys,S0,S1,rfl,_,_,hn⟩:=h
 obtain ⟨S,H4⟩:=(H.add4 hn).newz hk hf.n hf.w hf.s
 exact ⟨S,A,c,B,d,U,H4⟩

theorem freshO {S:Nat->Prop} {cs:List Value} {t:DTx} (w:World) (ht:RTx w S cs t) (hf:Tx.Fits t):Calls Tryz.prog 32 [.agg cs.toArray].toArray w (Ret (NewTxO w t)):=by
 obtain ⟨A,c,B,d,rfl,hI,hO,hk⟩:=tx_of ht
 have hIl:=rl_len hI
 have hOl:=rl_len hO
 have hI0:=hI
 obtain ⟨A_,c_,xs,hv_,_,_,hr,hel⟩:=hI
 cases hv_
 have hO0:=hO
 obtain ⟨A_,c_,ys,hv_,_,_,hs,hes⟩:=hO
 cases hv_
 have hxl:xs.length=t.ins.length*34:=hr.1
 have hyl:ys.length=t.outs.length*2:=hs.1
 have h1x:xs.all (·.oneCell')=true:=all_sub hxl (fun i hi=>by
  obtain ⟨x,hx⟩:=get_lt hi
  obtain ⟨Aw,cw,hL,-,-,-⟩:=in_of (hel i x hx)
  rw [hL];exact in_one)
 have h1y:ys.all (·.oneCell')=true:=all_sub hyl (fun i hi=>by
  obtain ⟨x,hx⟩:=get_lt hi
  obtain ⟨Aw,cw,hL,-,-⟩:=out_of (hes i x hx)
  rw [hL];rfl)
 have hfi:=hf.ins
 have hfo:=hf.outs
 refine kE (l:=[_]) Tryz.func32 U U ?_
 have H:=St.start nT w
 refine kR (sf (ebx (vs:=(txC A t.ins.length c B t.outs.length d t.lock)) U U H ?_))
 clear H;intro gm W H
 refine sf (eal [.slice none 0 0,.slice none 0 0,.int .i64 0] tz34 H ?_)
 clear H;intro go W H
 refine ln (kQ (k_cut 6 [] (fun sl W=>∃A1:Option Addr,∃c1:Nat,∃B1:Option Addr,∃d1:Nat,sl=[]∧(t.ins.length<=c1∧c1<=9223372036854775807)∧(t.outs.length<=d1∧d1<=9223372036854775807)∧St nT w W [Fact.row 64 34 (.slice A1 t.ins.length c1) t.ins.length (xs),Fact.row 66 2 (.slice B1 t.outs.length d1) t.outs.length (ys),Fact.blk gm (txC A1 t.ins.length c1 B1 t.outs.length d1 t.lock) 34,Fact.blk go (txC none 0 0 none 0 0 0) 34]) ?_ (fun sl ρv W hJ=>?_)))
 ·skip
  refine k_drawT (.rd 0 (.rd 3 (.many 7 [1,4] fun j=>(bif Nat.beq j 1 then (.many 6 [2,4] fun j=>(bif Nat.beq j 2 then (.ef 4 (.rd 6 (.ef 5 (.ef 7 (.rd 8 (.ef 9 .nil)))))) else (.ef 2 (.rd 6 (.ef 5 (.ef 7 (.rd 8 (.ef 9 .nil)))))))) else (.ef 1 (.ef 2 (.rd 6 (.ef 5 (.ef 7 (.rd 8 (.ef 9 .nil))))))))))) [] (by kernel_rfl) (by kernel_rfl) H (List.nil_sublist _) ?_
  clear H;intro W H
  refine tR U (fun W H=>dF U U tf34_0) (tR U (fun W H=>dF U U tf34_1) (t_each ?_ ?_))
  ·skip
   refine tf U (e_run (wn U) U (dX (g:=gm) (off:=0) U H U U U ta31) ?_)
   refine ⟨_,fun _ h=>h,H.sb,?_⟩
   refine t_each ?_ ?_
   ·skip
    refine tf U (ecl Tryz.func73 U U (cloneIn _ (H.rd hr) h1x hfi) ?_)
    rintro _ W ⟨A1,c1,rfl,hc1,hd1,hn1⟩
    replace H:=H.new hn1
    clear hn1
    refine ⟨_,fun _ h=>h,H.sb,?_⟩
    refine tf U (e_run (wn U) U (dX (g:=gm) (off:=1) U H U U U ta32) ?_)
    refine ⟨_,fun _ h=>h,H.sb,?_⟩
    refine tR U (fun W H=>dF U U tf34_0) (tf U (ecl Tryz.func74 U U (cloneOut _ (H.rd hs) h1y hfo) ?_))
    rintro _ W ⟨B1,d1,rfl,hc2,hd2,hn2⟩
    replace H:=H.new hn2
    clear hn2
    refine ⟨_,fun _ h=>h,H.sb,?_⟩
    refine tf U (e_sto (wn U) U U U U U ts31 U H U ?_)
    clear H;intro W H
    refine ⟨_,fun _ h=>h,H.sb,?_⟩
    refine tR U (fun W H=>dF U U tf34_1) (tf U (e_sto (wn U) U U U U U ts32 U H U ?_))
    clear H;intro W H
    refine ⟨_,fun _ h=>h,H.sb,?_⟩
    refine t_nil (kn (n_then ?_))
    refine ⟨_,_,U,?_,?_,⟨A1,c1,B1,d1,U,⟨hc1,hd1⟩,⟨hc2,hd2⟩,(H.perm (.trans (.swap _ _ _) (.cons _ (.cons _ (.swap _ _ _)))))⟩⟩
    ·with_reducible repeat first|exact .refl|refine .f ?_ ?_ ?_;kernel_rfl;kernel_rfl|refine .u ?_ ?_;kernel_rfl
    ·exact trivial
   refine t_each ?_ ?_
   ·skip
    refine tf U (e_run (wn U) U (dX (g:=gm) (off:=1) U H U U U ta32) ?_)
    refine ⟨_,fun _ h=>h,H.sb,?_⟩
    refine tf U (ecl Tryz.func73 U U (cloneIn _ (H.rd hr) h1x hfi) ?_)
    rintro _ W ⟨A1,c1,rfl,hc1,hd1,hn1⟩
    replace H:=H.new hn1
    clear hn1
    refine ⟨_,fun _ h=>h,H.sb,?_⟩
    refine tR U (fun W H=>dF U U tf34_0) (tf U (ecl Tryz.func74 U U (cloneOut _ (H.rd hs) h1y hfo) ?_))
    rintro _ W ⟨B1,d1,rfl,hc2,hd2,hn2⟩
    replace H:=H.new hn2
    clear hn2
    refine ⟨_,fun _ h=>h,H.sb,?_⟩
    refine tf U (e_sto (wn U) U U U U U ts31 U H U ?_)
    clear H;intro W H
    refine ⟨_,fun _ h=>h,H.sb,?_⟩
    refine tR U (fun W H=>dF U U tf34_1) (tf U (e_sto (wn U) U U U U U ts32 U H U ?_))
    clear H;intro W H
    refine ⟨_,fun _ h=>h,H.sb,?_⟩
    refine t_nil (kn (n_then ?_))
    refine ⟨_,_,U,?_,?_,⟨A1,c1,B1,d1,U,⟨hc1,hd1⟩,⟨hc2,hd2⟩,(H.perm (.trans (.swap _ _ _) (.cons _ (.cons _ (.swap _ _ _)))))⟩⟩
    ·with_reducible repeat first|exact .refl|refine .f ?_ ?_ ?_;kernel_rfl;kernel_rfl|refine .u ?_ ?_;kernel_rfl
    ·exact trivial
   exact t_none
  refine t_each ?_ ?_
  ·skip
   refine tf U (e_run (wn U) U (dX (g:=gm) (off:=1) U H U U U ta32) ?_)
   refine ⟨_,fun _ h=>h,H.sb,?_⟩
   refine tf U (e_run (wn U) U (dX (g:=gm) (off:=0) U H U U U ta31) ?_)
   refine ⟨_,fun _ h=>h,H.sb,?_⟩
   refine tf U (ecl Tryz.func73 U U (cloneIn _ (H.rd hr) h1x hfi) ?_)
   rintro _ W ⟨A1,c1,rfl,hc1,hd1,hn1⟩
   replace H:=H.new hn1
   clear hn1
   refine ⟨_,fun _ h=>h,H.sb,?_⟩
   refine tR U (fun W H=>dF U U tf34_0) (tf U (ecl Tryz.func74 U U (cloneOut _ (H.rd hs) h1y hfo) ?_))
   rintro _ W ⟨B1,d1,rfl,hc2,hd2,hn2⟩
   replace H:=H.new hn2
   clear hn2
   refine ⟨_,fun _ h=>h,H.sb,?_⟩
   refine tf U (e_sto (wn U) U U U U U ts31 U H U ?_)
   clear H;intro W H
   refine ⟨_,fun _ h=>h,H.sb,?_⟩
   refine tR U (fun W H=>dF U U tf34_1) (tf U (e_sto (wn U) U U U U U ts32 U H U ?_))
   clear H;intro W H
   refine ⟨_,fun _ h=>h,H.sb,?_⟩
   refine t_nil (kn (n_then ?_))
   refine ⟨_,_,U,?_,?_,⟨A1,c1,B1,d1,U,⟨hc1,hd1⟩,⟨hc2,hd2⟩,(H.perm (.trans (.swap _ _ _) (.cons _ (.cons _ (.swap _ _ _)))))⟩⟩
   ·with_reducible repeat first|exact .refl|refine .f ?_ ?_ ?_;kernel_rfl;kernel_rfl|refine .u ?_ ?_;kernel_rfl
   ·exact trivial
  exact t_none
 clear H;obtain ⟨A1,c1,B1,d1,rfl,hc1,hc2,H⟩:=hJ
 refine kQ (kR (sFa U tf34_0 (sR (dX (g:=gm) (off:=0) U H U U U ta31) (sLn U tu31 (sMi U (ln (kb (kL 17 [3,4] (fun mm sl W=>∃i:Nat,∃us:List Value,∃S1:Nat->Prop,t.ins.length - i=mm∧sl=[(17,.int .i64 (i:Int))]∧(i<=t.ins.length)∧(us.length=i*34)∧St nT w W [Fact.row 64 34 (.slice A1 t.ins.length c1) t.ins.length (us++xs.drop (i*34)),Fact.els RInO 34 S1 us (t.ins.take i),Fact.row 66 2 (.slice B1 t.outs.length d1) t.outs.length (ys),Fact.blk gm (txC A1 t.ins.length c1 B1 t.outs.length d1 t.lock) 34,Fact.blk go (txC none 0 0 none 0 0 0) 34]) _ _ ⟨0,[],(fun _=>False),U,U,Nat.zero_le _,U,((H.els0 RInO 34).perm (.swap _ _ _))⟩ ⟨U,trivial⟩ (fun mm sl ρv W hJ=>?_)))))))))
 clear H;obtain ⟨i,us,S1,rfl,rfl,hi,hus,H⟩:=hJ
 refine ko (kR (sLt U U (ln (kQ (kC U (fun hc18=>?_) (fun hc18=>?_))))))
 ·have hlt:i<t.ins.length:=by simp at hc18;omega
  obtain ⟨g1,rfl⟩:=row_own (H.holds _ (.head _)) (by omega)
  obtain ⟨x,hx⟩:=get_lt hlt
  obtain ⟨Aw,cw,hL,hW,hp,hn⟩:=in_of (hel i x hx)
  have hfw:=hf.wit x (List.mem_of_getElem? hx)
  have hW0:=hW
  obtain ⟨Aw_,cw_,zs,hv2,_,_,hrw,helw⟩:=hW
  cases hv2
  have hwl:=rl_len hW0
  have hzl:zs.length=x.wit.length*1:=hrw.1
  have h1z:zs.all (·.oneCell')=true:=all_sub hzl (fun j hj=>by
   obtain ⟨y,hy⟩:=get_lt hj
   obtain ⟨Ay,cy,hLy,-⟩:=rb_of (helw j y hy)
   rw [hLy];rfl)
  have hLi:=(mix_at (xs:=xs) hus).trans hL
  refine kS (kQ (kb (kR (sMi U (sAi U (ln (kQ (k_drawT (.rd 0 (.rd 1 (.rd 2 (.rd 3 (.rd 4 (.rd 5 (.rd 6 (.rd 7 (.ef 8 (.ef 9 (.rd 10 (.rd 11 (.ef 12 .nil))))))))))))) [Fact.blk gm (txC (some ⟨g1,0,none⟩) t.ins.length c1 B1 t.outs.length d1 t.lock) 34] (by kernel_rfl) (by kernel_rfl) H (by repeat (first|exact .refl _|exact List.nil_sublist _|refine .cons_cons _ ?_|refine .cons _ ?_)) ?_))))))))
  clear H;intro W H
  refine tR U (fun W H=>dF U U tf34_0) (tR U (fun W H=>dX (g:=gm) (off:=0) U H U U U ta31) (tR U (fun W H=>mv_i U U) (tR U (fun W H=>dF U U tf34_0) (tR U (fun W H=>dX (g:=gm) (off:=0) U H U U U ta31) (tR U (fun W H=>mv_i U U) (tR U (fun W H=>d_iaP (q:=i) U U U U hlt tu31 ts64) (tR U (fun W H=>dF U U tf64_1) (tf U (e_run (wn U) U (dE (q:=i) (off:=33) U (H.rowrd (A:=(some ⟨g1,0,none⟩))) hlt hLi (sub_in_w hp) U U (by omega) ta62) ?_)))))))))
  refine ⟨_,fun _ h=>h,H.sb,?_⟩
  refine tf U (ecl Tryz.func75 U U (cloneBss _ (H.rd hrw) h1z (by omega)) ?_)
  rintro _ W ⟨A9,c9,rfl,hc9,hd9,hn9⟩
  replace H:=H.new hn9
  clear hn9
  refine ⟨_,fun _ h=>h,H.sb,?_⟩
  refine tR U (fun W H=>d_iaP (q:=i) U U U U hlt tu31 ts64) (tR U (fun W H=>dF U U tf64_1) (tf U (e_stoG (v:=.slice A9 x.wit.length c9) (k:=i*34+33) (s:=34) (e:=64) (m:=t.ins.length) (c:=c1) (wn U) U U U (by omega) U U ts62 U H (by omega) ?_)))
  clear H;intro W H
  refine ⟨_,fun _ h=>h,H.sb,?_⟩
  refine t_nil (kQ ?_)
  rw [mix_set hus (by decide) hxl hlt,hL,set_in_w hp] at H
  have hLm:sub (us++(inC x.point A9 x.wit.length c9++xs.drop ((i+1)*34))) (i*34) 34=inC x.point A9 x.wit.length c9:=mix_mid hus (len_in hp)
  refine kr (sFa U tf34_0 (sR (dX (g:=gm) (off:=0) U H U U U ta31) (sMi U (sR (d_iaP (q:=i) U U U U hlt tu31 ts64) (sFa U tf64_1 (sR (dE (q:=i) (off:=33) U (H.rowrd (A:=(some ⟨g1,0,none⟩))) hlt hLm (sub_in_w hp) U U (by omega) ta62) (sLn U tu62 (sMi U (ln (kb (kL 39 [4] (fun mm sl W=>∃k:Nat,∃vs:List Value,∃S9:Nat->Prop,x.wit.length - k=mm∧sl=[(39,.int .i64 (k:Int))]∧(k<=x.wit.length)∧(vs.length=k*1)∧St nT w W [Fact.row 41 1 (.slice A9 x.wit.length c9) x.wit.length (vs++zs.drop (k*1)),Fact.els RBO 1 S9 vs (x.wit.take k),Fact.row 64 34 (.slice (some ⟨g1,0,none⟩) t.ins.length c1) t.ins.length (us++(inC x.point A9 x.wit.length c9++xs.drop ((i+1)*34))),Fact.els RInO 34 S1 us (t.ins.take i),Fact.row 66 2 (.slice B1 t.outs.length d1) t.outs.length (ys),Fact.blk gm (txC (some ⟨g1,0,none⟩) t.ins.length c1 B1 t.outs.length d1 t.lock) 34,Fact.blk go (txC none 0 0 none 0 0 0) 34]) _ _ ⟨0,[],(fun _=>False),U,U,Nat.zero_le _,U,((H.els0 RBO 1).perm (.swap _ _ _))⟩ ⟨U,trivial⟩ (fun mm sl ρv W hJ=>?_))))))))))))
  clear H;obtain ⟨k,vs,S9,rfl,rfl,hk,hvl,H⟩:=hJ
  refine ko (kR (sLt U U (ln (kQ (kC U (fun hc40=>?_) (fun hc40=>?_))))))
  ·have hlk:k<x.wit.length:=by simp at hc40;omega
   obtain ⟨g9,rfl⟩:=row_own (H.holds _ (.head _)) (by omega)
   obtain ⟨y,hy⟩:=get_lt hlk
   obtain ⟨Ay,cy,hLy,hBy⟩:=rb_of (helw k y hy)
   have hfy:=hfw.2 y (List.mem_of_getElem? hy)
   have hLk:=(mix_at (s:=1) (xs:=zs) hvl).trans hLy
   refine kS (kQ (kb (kR (sMi U (sAi U (ln (k_drawT (.rd 0 (.rd 1 (.rd 2 (.rd 3 (.rd 4 (.rd 5 (.rd 6 (.rd 7 (.rd 8 (.rd 9 (.rd 10 (.rd 11 (.rd 12 (.rd 13 (.rd 14 (.ef 15 (.ef 16 (.rd 17 (.ef 18 .nil))))))))))))))))))) [Fact.row 64 34 (.slice (some ⟨g1,0,none⟩) t.ins.length c1) t.ins.length (us++(inC x.point (some ⟨g9,0,none⟩) x.wit.length c9++xs.drop ((i+1)*34))),Fact.blk gm (txC (some ⟨g1,0,none⟩) t.ins.length c1 B1 t.outs.length d1 t.lock) 34] (by kernel_rfl) (by kernel_rfl) H (by repeat (first|exact .refl _|exact List.nil_sublist _|refine .cons_cons _ ?_|refine .cons _ ?_)) ?_)))))))
   clear H;intro W H
   refine tR U (fun W H=>dF U U tf34_0) (tR U (fun W H=>dX (g:=gm) (off:=0) U H U U U ta31) (tR U (fun W H=>mv_i U U) (tR U (fun W H=>d_iaP (q:=i) U U U U hlt tu31 ts64) (tR U (fun W H=>dF U U tf64_1) (tR U (fun W H=>dE (q:=i) (off:=33) U (H.rowrd (A:=(some ⟨g1,0,none⟩))) hlt hLm (sub_in_w hp) U U (by omega) ta62) (tR U (fun W H=>mv_i U U) (tR U (fun W H=>dF U U tf34_0) (tR U (fun W H=>dX (g:=gm) (off:=0) U H U U U ta31) (tR U (fun W H=>mv_i U U) (tR U (fun W H=>d_iaP (q:=i) U U U U hlt tu31 ts64) (tR U (fun W H=>dF U U tf64_1) (tR U (fun W H=>dE (q:=i) (off:=33) U (H.rowrd (A:=(some ⟨g1,0,none⟩))) hlt hLm (sub_in_w hp) U U (by omega) ta62) ?_))))))))))))
   refine tR U (fun W H=>mv_i U U) (tR U (fun W H=>d_iaP (q:=k) U U U U hlk tu62 ts41) (tf U (e_run (wn U) U (dE (q:=k) (off:=0) U (H.rowrd (A:=(some ⟨g9,0,none⟩))) hlk hLk U U U (by omega) ta41) ?_)))
   refine ⟨_,fun _ h=>h,H.sb,?_⟩
   refine tf U (eN Tryz.func76 U U (cloneBy _ (H.bs hBy) hfy) H ?_)
   clear H;intro A8 c8 W hc8 hd8 H
   refine ⟨_,fun _ h=>h,H.sb,?_⟩
   refine tR U (fun W H=>d_iaP (q:=k) U U U U hlk tu62 ts41) (tf U (e_stoG (v:=.slice A8 y.length c8) (k:=k*1+0) (s:=1) (e:=41) (m:=x.wit.length) (c:=c9) (wn U) U U U (by omega) U U ts41 U H (by omega) ?_))
   clear H;intro W H
   refine ⟨_,fun _ h=>h,H.sb,?_⟩
   refine t_nil (kn (zE ?_))
   rw [mix_set (s:=1) hvl (by decide) hzl hlk,hLy] at H
   replace H:=H.torbO rfl
   replace H:=(St.elsnoc (H.perm (.cons _ (.swap _ _ _))) rfl).perm (.swap _ _ _)
   refine kr (sAd U U (by omega) (sMi U (ln (kn (kY ?_)))))
   refine ⟨_,_,_,?_,U,?_,?_,⟨k+1,vs++[.slice A8 y.length c8],_,U,U,by omega,(by rw [List.length_append,hvl,Nat.add_mul];rfl),(by rw [take_get hy,List.append_assoc];exact H)⟩⟩
   ·omega
   ·with_reducible repeat first|exact .refl|refine .f ?_ ?_ ?_;kernel_rfl;kernel_rfl|refine .u ?_ ?_;kernel_rfl
   ·refine ⟨?_,trivial⟩
    ·exact vi (by omega)
  ·obtain rfl:k=x.wit.length:=by simp at hc40;omega
   rw [List.take_length,mix_end hzl] at H
   replace H:=H.tolistO
   replace H:=H.rerep (R':=RInO) (cs':=inC x.point A9 x.wit.length c9) (b:=x) (fun h=>in_repO hp hn h)
   replace H:=(St.elsnoc (H.perm (.cons _ (.swap _ _ _))) (len_in hp)).perm (.swap _ _ _)
   refine ke (xt (xt ?_))
   refine xH (kn (zE (kr (sAd U U (by omega) (sMi U (ln (kn (kY ?_))))))))
   refine ⟨_,_,_,?_,U,?_,?_,⟨i+1,us++inC x.point A9 x.wit.length c9,_,U,U,by omega,(by rw [List.length_append,hus,len_in hp,Nat.add_mul]),(by rw [take_get hx,List.append_assoc];exact H)⟩⟩
   ·omega
   ·with_reducible repeat first|exact .refl|refine .f ?_ ?_ ?_;kernel_rfl;kernel_rfl|refine .u ?_ ?_;kernel_rfl
   ·refine ⟨?_,trivial⟩
    ·exact vi (by omega)
 ·obtain rfl:i=t.ins.length:=by simp at hc18;omega
  rw [List.take_length,mix_end hxl] at H
  refine ke (xt (xt ?_))
  refine xH (kQ (kR (sFa U tf34_1 (sR (dX (g:=gm) (off:=1) U H U U U ta32) (sLn U tu32 (sMi U (ln (kb (kL 65 [5] (fun mm sl W=>∃i:Nat,∃us2:List Value,∃S2:Nat->Prop,t.outs.length - i=mm∧sl=[(65,.int .i64 (i:Int))]∧(i<=t.outs.length)∧(us2.length=i*2)∧St nT w W [Fact.row 66 2 (.slice B1 t.outs.length d1) t.outs.length (us2++ys.drop (i*2)),Fact.els ROutO 2 S2 us2 (t.outs.take i),Fact.row 64 34 (.slice A1 t.ins.length c1) t.ins.length (us),Fact.els RInO 34 S1 us t.ins,Fact.blk gm (txC A1 t.ins.length c1 B1 t.outs.length d1 t.lock) 34,Fact.blk go (txC none 0 0 none 0 0 0) 34]) _ _ ⟨0,[],(fun _=>False),U,U,Nat.zero_le _,U,((St.els0 (H.perm (List.perm_middle (l₁:=[_,_]))) ROutO 2).perm (.swap _ _ _))⟩ ⟨U,trivial⟩ (fun mm sl ρv W hJ=>?_))))))))))
  clear H;obtain ⟨i,us2,S2,rfl,rfl,hi,hus2,H⟩:=hJ
  refine ko (kR (sLt U U (ln (kQ (kC U (fun hc66=>?_) (fun hc66=>?_))))))
  ·have hlt:i<t.outs.length:=by simp at hc66;omega
   obtain ⟨g2,rfl⟩:=row_own (H.holds _ (.head _)) (by omega)
   obtain ⟨y,hy⟩:=get_lt hlt
   obtain ⟨Ay,cy,hLy,hBy,hny⟩:=out_of (hes i y hy)
   have hfy:=hf.scr y (List.mem_of_getElem? hy)
   have hLi:=(mix_at (xs:=ys) hus2).trans hLy
   refine kS (kQ (kb (kR (sMi U (sAi U (ln (k_drawT (.rd 0 (.rd 1 (.rd 2 (.rd 3 (.rd 4 (.rd 5 (.rd 6 (.rd 7 (.ef 8 (.ef 9 (.rd 10 (.rd 11 (.ef 12 .nil))))))))))))) [Fact.blk gm (txC A1 t.ins.length c1 (some ⟨g2,0,none⟩) t.outs.length d1 t.lock) 34] (by kernel_rfl) (by kernel_rfl) H (by repeat (first|exact .refl _|exact List.nil_sublist _|refine .cons_cons _ ?_|refine .cons _ ?_)) ?_)))))))
   clear H;intro W H
   refine tR U (fun W H=>dF U U tf34_1) (tR U (fun W H=>dX (g:=gm) (off:=1) U H U U U ta32) (tR U (fun W H=>mv_i U U) (tR U (fun W H=>dF U U tf34_1) (tR U (fun W H=>dX (g:=gm) (off:=1) U H U U U ta32) (tR U (fun W H=>mv_i U U) (tR U (fun W H=>d_iaP (q:=i) U U U U hlt tu32 ts66) (tR U (fun W H=>dF U U tf66_1) (tf U (e_run (wn U) U (dE (q:=i) (off:=1) U (H.rowrd (A:=(some ⟨g2,0,none⟩))) hlt hLi U U U (by omega) ta41) ?_)))))))))
   refine ⟨_,fun _ h=>h,H.sb,?_⟩
   refine tf U (eN Tryz.func76 U U (cloneBy _ (H.bs hBy) hfy) H ?_)
   clear H;intro A8 c8 W hc8 hd8 H
   refine ⟨_,fun _ h=>h,H.sb,?_⟩
   refine tR U (fun W H=>d_iaP (q:=i) U U U U hlt tu32 ts66) (tR U (fun W H=>dF U U tf66_1) (tf U (e_stoG (v:=.slice A8 y.script.length c8) (k:=i*2+1) (s:=2) (e:=66) (m:=t.outs.length) (c:=d1) (wn U) U U U (by omega) U U ts41 U H (by omega) ?_)))
   clear H;intro W H
   refine ⟨_,fun _ h=>h,H.sb,?_⟩
   refine t_nil (kn (zE ?_))
   rw [mix_set hus2 (by decide) hyl hlt,hLy] at H
   replace H:=H.torbO rfl
   replace H:=H.rerep (R':=ROutO) (cs':=outC y.value A8 y.script.length c8) (b:=y) (fun h=>by exact out_repO hny h)
   replace H:=(St.elsnoc (H.perm (.cons _ (.swap _ _ _))) rfl).perm (.swap _ _ _)
   refine kr (sAd U U (by omega) (sMi U (ln (kn (kY ?_)))))
   refine ⟨_,_,_,?_,U,?_,?_,⟨i+1,us2++outC y.value A8 y.script.length c8,_,U,U,by omega,(by rw [List.length_append,hus2,Nat.add_mul];rfl),(by rw [take_get hy,List.append_assoc];exact H)⟩⟩
   ·omega
   ·with_reducible repeat first|exact .refl|refine .f ?_ ?_ ?_;kernel_rfl;kernel_rfl|refine .u ?_ ?_;kernel_rfl
   ·refine ⟨?_,trivial⟩
    ·exact vi (by omega)
  ·obtain rfl:i=t.outs.length:=by simp at hc66;omega
   rw [List.take_length,mix_end hyl] at H
   refine ke (xt (xt ?_))
   refine xH (kR (sR (dM (g:=gm) (off:=0) U H (sa (a:=txC A1 t.ins.length c1 B1 t.outs.length d1 t.lock) (m:=3) U) U U U U ta34 ts34) (sf (esk (txC A1 t.ins.length c1 B1 t.outs.length d1 t.lock) U U U ts34 U U H (by decide) U ?_))))
   clear H;intro W H
   refine ln (kx ?_)
   refine q_retc U (c:=txC A1 t.ins.length c1 B1 t.outs.length d1 t.lock) (g:=go) H U ta34 ts34 ⟨_,U,A1,c1,B1,d1,us,us2,S1,S2,U,hc1,hc2,?_⟩
   exact (H.sub (L':=[_,_,_,_]) (by repeat (first|exact .refl _|exact List.nil_sublist _|refine .cons_cons _ ?_|refine .cons _ ?_))).perm (List.perm_append_comm (l₁:=[_,_]) (l₂:=[_,_]))

theorem makeZ {S:Nat->Prop} {A:Option Addr} {c:Nat} {l:List DTx} (w:World) (hl:RL 3 RTx w S [.slice A l.length c] l) (hG:Gat w 0 formsC) (hB:Old.Gl w) {p:List UInt8} (hp:p.length=32) {k:Int} (hk:I64 k) (hn:l.length<=1000000) (hf:∀t∈l,Tx.FitZ t):Calls Tryz.prog 6 [.agg (p.map u8v).toArray,.int .i64 k,.slice A l.length c].toArray w (Ret (fun v' w'=>∃S3 A3 c3 zl,v'=.agg (bC (mkH p l k) A3 l.length c3).toArray∧zl.map (fun z:ZD=>z.t)=l∧St nT w w' [Fact.zb 34 64 66 S3 A3 l.length c3 zl])):=by
 have hl0:=hl
 obtain ⟨A_,c_,xs,hv_,_,_,hr,hel⟩:=hl0
 cases hv_
 have hh:Bk.OkH (mkH p l k):=mkH_ok hp hk
 have hpl:(p.map u8v).length=32:=by rw [List.length_map];exact hp
 have hrl:((rootB l).map u8v).length=32:=by rw [List.length_map];exact len_rootB l
 refine kE (l:=[_,_,_]) Tryz.func6 U U ?_
 have H:=St.start nT w
 refine kR (sf (ebx (vs:=(p.map u8v)) U U H ?_))
 clear H;intro gp W H
 refine sf (eal (bC zHd none 0 0) tz28 H ?_)
 clear H;intro go W H
 refine ln (kQ (k_cut 10 [7] (fun sl W=>∃gb:Nat,sl=[(7,.pointer (some ⟨gb,0,none⟩))]∧St nT w W [Fact.blk gb (bC (mkH p l k) none 0 0) 28,Fact.blk go (bC zHd none 0 0) 28]) ?_ (fun sl ρv W hJ=>?_)))
 ·skip
  refine k_drawT (.rd 0 (.rd 1 (.rd 3 (.many 4 [2,6] fun j=>(bif Nat.beq j 2 then (.rd 4 (.rd 5 (.ef 6 (.ef 7 .nil)))) else (.ef 2 (.rd 4 (.rd 5 (.ef 7 .nil))))))))) [Fact.blk gp (p.map u8v) 24] (by kernel_rfl) (by kernel_rfl) H (by repeat (first|exact .refl _|exact List.nil_sublist _|refine .cons_cons _ ?_|refine .cons _ ?_)) ?_
  clear H;intro W H
  refine tR U (fun W H=>d_ldm0 (g:=gp) U H U ta24 ts24 hpl) (tR U (fun W H=>mv_s U U) (tR U (fun W H=>mv_i U U) (t_each ?_ ?_)))
  ·skip
   refine tf U (eI Tryz.func20 U U (rootP _ (keeps_L keeps_Tx _ _ _ _ _ hl (fun g hg _=>H.fr.block g hg (fun h=>h))) (H.gat hG) (H.gl hB) hn) H ?_)
   clear H;intro W H
   refine ⟨_,fun _ h=>h,H.sb,?_⟩
   refine tR U (fun W H=>dB (vs:=hdrC (mkH p l k)) U (built_fields (places:=[(0,32),(32,32),(64,1)]) tz26 (by kernel_rfl) (by kernel_rfl) (fN (vs:=p.map u8v) (.agg (p.map u8v).toArray) U U U hpl (Nat.le_of_ble_eq_true U) (fN (vs:=(rootB l).map u8v) (.agg ((rootB l).map u8v).toArray) U (by first|(simp [hpl];done)|(simp [hpl];omega)) U hrl (Nat.le_of_ble_eq_true U) (fN (vs:=[.int .i64 k]) (.int .i64 k) U (by first|(simp [hpl,hrl];done)|(simp [hpl,hrl];omega)) U U (Nat.le_of_ble_eq_true U) (fill_end (by rw [List.drop_drop,List.drop_drop,List.drop_of_length_le (by rw [len_hdr zHd_ok];exact Nat.le_refl _)];simp [hdrC,mkH]))))))) ?_
   refine tR U (fun W H=>dB (vs:=bC (mkH p l k) none 0 0) U (built_fields (places:=[(0,65),(65,1)]) tz28 (by kernel_rfl) (by kernel_rfl) (fN (vs:=hdrC (mkH p l k)) (.agg (hdrC (mkH p l k)).toArray) U U U (len_hdr hh) (Nat.le_of_ble_eq_true U) (fill_end (by rfl))))) ?_
   refine tf U (eal (bC zHd none 0 0) tz28 H ?_)
   clear H;intro gb W H
   refine ⟨_,fun _ h=>h,H.sb,?_⟩
   refine tf U (esk (bC (mkH p l k) none 0 0) U U U ts28 (lB hh) blk_one H (by rw [lB zHd_ok];decide) (spl_all ((lB hh).trans (lB zHd_ok).symm)) ?_)
   clear H;intro W H
   refine ⟨_,fun _ h=>h,H.sb,?_⟩
   refine t_nil (kn (n_then ?_))
   refine ⟨_,_,U,?_,?_,⟨gb,U,(H.sub (L':=[_,_]) (by repeat (first|exact .refl _|exact List.nil_sublist _|refine .cons_cons _ ?_|refine .cons _ ?_)))⟩⟩
   ·with_reducible repeat first|exact .refl|refine .f ?_ ?_ ?_;kernel_rfl;kernel_rfl|refine .u ?_ ?_;kernel_rfl
   ·refine ⟨?_,trivial⟩
    ·exact U
  refine t_each ?_ ?_
  ·skip
   refine tf U (eal (bC zHd none 0 0) tz28 H ?_)
   clear H;intro gb W H
   refine ⟨_,fun _ h=>h,H.sb,?_⟩
   refine tf U (eI Tryz.func20 U U (rootP _ (keeps_L keeps_Tx _ _ _ _ _ hl (fun g hg _=>H.fr.block g hg (fun h=>h))) (H.gat hG) (H.gl hB) hn) H ?_)
   clear H;intro W H
   refine ⟨_,fun _ h=>h,H.sb,?_⟩
   refine tR U (fun W H=>dB (vs:=hdrC (mkH p l k)) U (built_fields (places:=[(0,32),(32,32),(64,1)]) tz26 (by kernel_rfl) (by kernel_rfl) (fN (vs:=p.map u8v) (.agg (p.map u8v).toArray) U U U hpl (Nat.le_of_ble_eq_true U) (fN (vs:=(rootB l).map u8v) (.agg ((rootB l).map u8v).toArray) U (by first|(simp [hpl];done)|(simp [hpl];omega)) U hrl (Nat.le_of_ble_eq_true U) (fN (vs:=[.int .i64 k]) (.int .i64 k) U (by first|(simp [hpl,hrl];done)|(simp [hpl,hrl];omega)) U U (Nat.le_of_ble_eq_true U) (fill_end (by rw [List.drop_drop,List.drop_drop,List.drop_of_length_le (by rw [len_hdr zHd_ok];exact Nat.le_refl _)];simp [hdrC,mkH]))))))) ?_
   refine tR U (fun W H=>dB (vs:=bC (mkH p l k) none 0 0) U (built_fields (places:=[(0,65),(65,1)]) tz28 (by kernel_rfl) (by kernel_rfl) (fN (vs:=hdrC (mkH p l k)) (.agg (hdrC (mkH p l k)).toArray) U U U (len_hdr hh) (Nat.le_of_ble_eq_true U) (fill_end (by rfl))))) ?_
   refine tf U (esk (bC (mkH p l k) none 0 0) U U U ts28 (lB hh) blk_one H (by rw [lB zHd_ok];decide) (spl_all ((lB hh).trans (lB zHd_ok).symm)) ?_)
   clear H;intro W H
   refine ⟨_,fun _ h=>h,H.sb,?_⟩
   refine t_nil (kn (n_then ?_))
   refine ⟨_,_,U,?_,?_,⟨gb,U,(H.sub (L':=[_,_]) (by repeat (first|exact .refl _|exact List.nil_sublist _|refine .cons_cons _ ?_|refine .cons _ ?_)))⟩⟩
   ·with_reducible repeat first|exact .refl|refine .f ?_ ?_ ?_;kernel_rfl;kernel_rfl|refine .u ?_ ?_;kernel_rfl
   ·refine ⟨?_,trivial⟩
    ·exact U
  exact t_none
 clear H;obtain ⟨gb,rfl,H⟩:=hJ
 refine kQ (kR (sMs U (sLn U tu22 (sMi U (ln (kb (kL 18 [9] (fun mm sl W=>∃i:Nat,∃A3:Option Addr,∃c3:Nat,∃zl:List ZD,∃S3:Nat->Prop,l.length - i=mm∧sl=[(18,.int .i64 (i:Int))]∧(i<=l.length)∧(i<=c3∧c3<=9223372036854775807)∧(zl.map (fun z:ZD=>z.t)=l.take i)∧St nT w W [Fact.row 34 3 (.slice A3 i c3) i (zcs zl),Fact.zs 64 66 S3 zl,Fact.blk gb (bC (mkH p l k) A3 i c3) 28,Fact.blk go (bC zHd none 0 0) 28]) _ _ ⟨0,none,0,[],(fun _=>False),U,U,Nat.zero_le _,⟨Nat.le_refl _,by omega⟩,U,((H.zs0 64 66).nilrow 34 3)⟩ ⟨U,trivial⟩ (fun mm sl ρv W hJ=>?_))))))))
 clear H;obtain ⟨i,A3,c3,zl,S3,rfl,rfl,hi,hd3,hzl,H⟩:=hJ
 refine ko (kR (sLt U U (ln (kQ (kC U (fun hc19=>?_) (fun hc19=>?_))))))
 ·have hlt:i<l.length:=by simp at hc19;omega
  obtain ⟨g0,o0,rfl,-⟩:=hr.2 (by omega)
  obtain ⟨t,ht⟩:=get_lt hlt
  have hRt:=hel i t ht
  obtain ⟨Ai,ci,Bi,di,hL,-,-,hkt⟩:=tx_of hRt
  rw [hL] at hRt
  have hft:=hf t (List.mem_of_getElem? ht)
  refine kS (kQ (kb (kR (sR (dG U (H.rd hr) U U (q:=i) U hlt tu22 ts34) (sR (dN (off:=0) U (H.rd hr) hlt hL (sa (a:=txC Ai t.ins.length ci Bi t.outs.length di t.lock) (m:=3) U) U U (by omega) ta34 ts34) (sf (eal [.slice none 0 0,.slice none 0 0,.int .i64 0] tz34 H ?_)))))))
  clear H;intro gx W H
  refine sf (esk (txC Ai t.ins.length ci Bi t.outs.length di t.lock) U U U ts34 U U H (by decide) U ?_)
  clear H;intro W H
  refine ln (k_cut 22 [] (fun sl W=>∃A7:Option Addr,∃c7:Nat,∃ws:List ZD,∃S7:Nat->Prop,sl=[]∧(i+1<=c7)∧(c7<=9223372036854775807)∧(ws.map (fun z:ZD=>z.t)=l.take i++[t])∧St nT w W [Fact.row 34 3 (.slice A7 (i+1) c7) (i+1) (zcs ws),Fact.zs 64 66 S7 ws,Fact.blk gb (bC (mkH p l k) A7 (i+1) c7) 28,Fact.blk go (bC zHd none 0 0) 28]) ?_ (fun sl ρv W hJ=>?_))
  ·skip
   refine k_drawT (.rd 0 (.rd 2 (.many 5 [1,3] fun j=>(bif Nat.beq j 1 then (.ef 3 (.ef 4 (.ef 5 (.rd 6 (.ef 7 .nil))))) else (.many 4 [1,4] fun j=>(bif Nat.beq j 1 then (.ef 4 (.ef 5 (.rd 6 (.ef 7 .nil)))) else (.ef 1 (.ef 5 (.rd 6 (.ef 7 .nil)))))))))) [Fact.blk gx (txC Ai t.ins.length ci Bi t.outs.length di t.lock) 34] (by kernel_rfl) (by kernel_rfl) H (by repeat (first|exact .refl _|exact List.nil_sublist _|refine .cons_cons _ ?_|refine .cons _ ?_)) ?_
   clear H;intro W H
   refine tR U (fun W H=>dF U U tf28_1) (tR U (fun W H=>dM (g:=gx) (off:=0) U H (sa (a:=txC Ai t.ins.length ci Bi t.outs.length di t.lock) (m:=3) U) U U U U ta34 ts34) (t_each ?_ ?_))
   ·skip
    refine tf U (e_run (wn U) U (dX (g:=gb) (off:=65) U H (sub_b_txs hh) U U ta22) ?_)
    refine ⟨_,fun _ h=>h,H.sb,?_⟩
    refine tf U (ecl Tryz.func32 U U (freshO _ (keeps_Tx _ _ _ _ _ hRt (fun g hg _=>H.fr.block g hg (fun h=>h))) hft.fits) ?_)
    rintro _ W hs_
    obtain ⟨Sn5,An5,cn5,Bn5,dn5,rfl,H1_⟩:=NewTxO.z hs_ H hkt hft
    clear H hs_
    have H:=H1_
    clear H1_
    refine ⟨_,fun _ h=>h,H.sb,?_⟩
    refine tf U (ebs (xs:=[.tmp 25]) (vals:=[.agg (txC An5 t.ins.length cn5 Bn5 t.outs.length dn5 t.lock).toArray]) (vs:=(txC An5 t.ins.length cn5 Bn5 t.outs.length dn5 t.lock)) U U U U tu22 ts34 ty34 U (by simp [agg_cells,txC]) (by simp [agg_cells]) H ?_)
    clear H;intro g5_4 W H
    refine ⟨_,fun _ h=>h,H.sb,?_⟩
    refine tf U (eap tu22 tx34 U U U H (rd_blk (m:=1) H.blk U) (U) (by omega) U ?_)
    clear H;intro A7 c7 W hc7 hd7 H
    replace H:=H.drop
    refine ⟨_,fun _ h=>h,H.sb,?_⟩
    refine tR U (fun W H=>dF U U tf28_1) (tf U (esk (v:=.slice A7 (i+1) c7) (vs:=[.slice A7 (i+1) c7]) (bC (mkH p l k) A7 (i+1) c7) U U U ts22 U U H (by rw [lB hh];decide) (spl_b_txs hh) ?_))
    clear H;intro W H
    refine ⟨_,fun _ h=>h,H.sb,?_⟩
    refine t_nil (kn (n_then ?_))
    replace H:=(H.perm (.swap _ _ _)).drop
    replace H:=(St.zsnoc (H.perm (.cons _ (.swap _ _ _)))).perm (.swap _ _ _)
    refine ⟨_,_,U,?_,?_,⟨A7,c7,zl++[⟨An5,cn5,Bn5,dn5,t⟩],_,U,hc7,hd7,(by rw [List.map_append,hzl];rfl),(by rw [zcs_snoc];exact H)⟩⟩
    ·with_reducible repeat first|exact .refl|refine .f ?_ ?_ ?_;kernel_rfl;kernel_rfl|refine .u ?_ ?_;kernel_rfl
    ·exact trivial
   refine t_each ?_ ?_
   ·skip
    refine tf U (ecl Tryz.func32 U U (freshO _ (keeps_Tx _ _ _ _ _ hRt (fun g hg _=>H.fr.block g hg (fun h=>h))) hft.fits) ?_)
    rintro _ W hs_
    obtain ⟨Sn5,An5,cn5,Bn5,dn5,rfl,H1_⟩:=NewTxO.z hs_ H hkt hft
    clear H hs_
    have H:=H1_
    clear H1_
    refine ⟨_,fun _ h=>h,H.sb,?_⟩
    refine t_each ?_ ?_
    ·skip
     refine tf U (e_run (wn U) U (dX (g:=gb) (off:=65) U H (sub_b_txs hh) U U ta22) ?_)
     refine ⟨_,fun _ h=>h,H.sb,?_⟩
     refine tf U (ebs (xs:=[.tmp 25]) (vals:=[.agg (txC An5 t.ins.length cn5 Bn5 t.outs.length dn5 t.lock).toArray]) (vs:=(txC An5 t.ins.length cn5 Bn5 t.outs.length dn5 t.lock)) U U U U tu22 ts34 ty34 U (by simp [agg_cells,txC]) (by simp [agg_cells]) H ?_)
     clear H;intro g5_4 W H
     refine ⟨_,fun _ h=>h,H.sb,?_⟩
     refine tf U (eap tu22 tx34 U U U H (rd_blk (m:=1) H.blk U) (U) (by omega) U ?_)
     clear H;intro A7 c7 W hc7 hd7 H
     replace H:=H.drop
     refine ⟨_,fun _ h=>h,H.sb,?_⟩
     refine tR U (fun W H=>dF U U tf28_1) (tf U (esk (v:=.slice A7 (i+1) c7) (vs:=[.slice A7 (i+1) c7]) (bC (mkH p l k) A7 (i+1) c7) U U U ts22 U U H (by rw [lB hh];decide) (spl_b_txs hh) ?_))
     clear H;intro W H
     refine ⟨_,fun _ h=>h,H.sb,?_⟩
     refine t_nil (kn (n_then ?_))
     replace H:=(H.perm (.swap _ _ _)).drop
     replace H:=(St.zsnoc (H.perm (.cons _ (.swap _ _ _)))).perm (.swap _ _ _)
     refine ⟨_,_,U,?_,?_,⟨A7,c7,zl++[⟨An5,cn5,Bn5,dn5,t⟩],_,U,hc7,hd7,(by rw [List.map_append,hzl];rfl),(by rw [zcs_snoc];exact H)⟩⟩
     ·with_reducible repeat first|exact .refl|refine .f ?_ ?_ ?_;kernel_rfl;kernel_rfl|refine .u ?_ ?_;kernel_rfl
     ·exact trivial
    refine t_each ?_ ?_
    ·skip
     refine tf U (ebs (xs:=[.tmp 25]) (vals:=[.agg (txC An5 t.ins.length cn5 Bn5 t.outs.length dn5 t.lock).toArray]) (vs:=(txC An5 t.ins.length cn5 Bn5 t.outs.length dn5 t.lock)) U U U U tu22 ts34 ty34 U (by simp [agg_cells,txC]) (by simp [agg_cells]) H ?_)
     clear H;intro g5_4 W H
     refine ⟨_,fun _ h=>h,H.sb,?_⟩
     refine tf U (e_run (wn U) U (dX (g:=gb) (off:=65) U H (sub_b_txs hh) U U ta22) ?_)
     refine ⟨_,fun _ h=>h,H.sb,?_⟩
     refine tf U (eap tu22 tx34 U U U H (rd_blk (m:=1) H.blk U) (U) (by omega) U ?_)
     clear H;intro A7 c7 W hc7 hd7 H
     replace H:=H.drop
     refine ⟨_,fun _ h=>h,H.sb,?_⟩
     refine tR U (fun W H=>dF U U tf28_1) (tf U (esk (v:=.slice A7 (i+1) c7) (vs:=[.slice A7 (i+1) c7]) (bC (mkH p l k) A7 (i+1) c7) U U U ts22 U U H (by rw [lB hh];decide) (spl_b_txs hh) ?_))
     clear H;intro W H
     refine ⟨_,fun _ h=>h,H.sb,?_⟩
     refine t_nil (kn (n_then ?_))
     replace H:=(H.perm (.swap _ _ _)).drop
     replace H:=(St.zsnoc (H.perm (.cons _ (.swap _ _ _)))).perm (.swap _ _ _)
     refine ⟨_,_,U,?_,?_,⟨A7,c7,zl++[⟨An5,cn5,Bn5,dn5,t⟩],_,U,hc7,hd7,(by rw [List.map_append,hzl];rfl),(by rw [zcs_snoc];exact H)⟩⟩
     ·with_reducible repeat first|exact .refl|refine .f ?_ ?_ ?_;kernel_rfl;kernel_rfl|refine .u ?_ ?_;kernel_rfl
     ·exact trivial
    exact t_none
   exact t_none
  clear H;obtain ⟨A7,c7,ws,S7,rfl,hc7,hd7,hws,H⟩:=hJ
  refine kn (zE (kr (sAd U U (by omega) (sMi U (ln (kn (kY ?_)))))))
  refine ⟨_,_,_,?_,U,?_,?_,⟨i+1,A7,c7,ws,S7,U,U,by omega,⟨hc7,hd7⟩,(by rw [take_get ht];exact hws),H⟩⟩
  ·omega
  ·with_reducible repeat first|exact .refl|refine .f ?_ ?_ ?_;kernel_rfl;kernel_rfl|refine .u ?_ ?_;kernel_rfl
  ·refine ⟨?_,trivial⟩
   ·exact vi (by omega)
 ·obtain rfl:i=l.length:=by simp at hc19;omega
  rw [List.take_length] at hzl
  refine ke (xt (xt ?_))
  refine xH (kR (sR (dM (g:=gb) (off:=0) U H (sa (lB hh)) (lB hh) U U U ta28 ts28) (sf (esk (bC (mkH p l k) A3 l.length c3) U U U ts28 (lB hh) blk_one H (by rw [lB zHd_ok];decide) (spl_all ((lB hh).trans (lB zHd_ok).symm)) ?_))))
  clear H;intro W H
  refine ln (kx ?_)
  refine q_retc U (c:=bC (mkH p l k) A3 l.length c3) (g:=go) H U ta28 (by rw [lB hh];exact ts28) ⟨_,U,S3,A3,c3,zl,U,hzl,?_⟩
  exact H.zbmk.sub (L':=[_]) (by repeat (first|exact .refl _|exact List.nil_sublist _|refine .cons_cons _ ?_|refine .cons _ ?_))
end Go.Proofs.YtfhhfhdnhadooaaGreatDoor
