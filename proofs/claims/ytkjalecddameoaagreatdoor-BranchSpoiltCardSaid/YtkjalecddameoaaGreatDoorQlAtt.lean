/- A variable with closed cells. -/
import Derived.Test.YtkjalecddameoaaGreatDoorQfTry
import Derived.Test.YtkjalecddameoaaGreatDoorQlPars
import Derived.Test.YtkjalecddameoaaGreatDoorQdWalk
set_option linter.all false
namespace Go.Pv
open Go Go.RowKit
theorem lt_var {m:Nat} {cs:List PV} {f:Bool} (h:closedL cs = true):(Box.var cs f).Lt m:=fun c hc=>(lt_of_closedL _ h c hc).mono (Nat.zero_le _)
end Go.Pv
namespace Go.Pv
open Go Go.RowKit Go.Proofs
set_option maxRecDepth 200000
set_option maxHeartbeats 8000000
theorem att117_none {g:FuncId} {fa cap:List PV} {sg sg2:List Box} {w:List UInt8} {d:PV} (he:Enters Tryz.prog g) (hc:CallOk Tryz.prog g (fa ++ ([] ++ cap)) (sg ++ [.var [ii 0] false,.var [ii 0] false]) (.pan (noneV w)) sg2) (hsl:SameLoops (sg ++ [.var [ii 0] false,.var [ii 0] false]) sg2)
 (hb:sg2[sg.length]? = some (.var [ii 0] false)) (hd:sg2[sg.length + 1]? = some (.var [d] false)):CallOk Tryz.prog 117 [.fn (.func g) fa cap] sg (.ret (.tuple [ii 0,ii 4])) ((sg2 ++ [Box.var [.str w] false]).set (sg.length + 1) (.var [ii 4] false)):=by
 unfold noneV at hc
 have hlt:sg.length + 1 < sg2.length:=(List.getElem?_eq_some_iff.1 hd).1
 have hd2:(sg2 ++ [Box.var [.str w] false])[sg.length + 1]? = some (.var [d] false):=by rw [List.getElem?_append_left (by omega)];exact hd
 have hg1:((sg2 ++ [Box.var [.str w] false]).set (sg.length + 1) (.var [ii 4] false))[sg.length + 1]? = some (.var [ii 4] false):=List.getElem?_set_self (by simp;omega)
 have hg0:((sg2 ++ [Box.var [.str w] false]).set (sg.length + 1) (.var [ii 4] false))[sg.length]? = some (.var [ii 0] false):=by rw [List.getElem?_set_ne (by omega),List.getElem?_append_left (by omega)];exact hb
 refine CallOk.deferring2 (st1:=⟨[(3,.bp (sg.length + 1) 0),(2,.bp sg.length 0),(0,.fn (.func g) fa cap)],7,sg ++ [.var [ii 0] false,.var [ii 0] false]⟩) (st2:=⟨[(5,.fn (.func g) fa cap),(4,.fn (.func 168) [] [.bp sg.length 0,.bp (sg.length + 1) 0]),(3,.bp (sg.length + 1) 0),(2,.bp sg.length 0),(0,.fn (.func g) fa cap)],7,sg2⟩) (m:=.pan (.iface 223 (.agg [.str w])))
  (st3:=⟨[(4,.bp sg2.length 0),(16,.agg [.str w]),(15,.bool true),(14,.tuple [.agg [.str w],.bool true]),(11,.agg [ii 0]),(10,.bool false),(9,.tuple [.agg [ii 0],.bool false]),(8,.bool false),(6,.iface 223 (.agg [.str w])),(0,.bp sg.length 0),(1,.bp (sg.length + 1) 0)],17,(sg2 ++ [Box.var [.str w] false]).set (sg.length + 1) (.var [ii 4] false)⟩) (idv:=sg.length) (idw:=sg.length + 1) hTT Tryz.func117 rfl Tryz.func168 rfl rfl (by decide) (ent Tryz.func168 rfl) ?_ rfl rfl (of_decide_eq_true rfl) ?_ ?_ ?_ ?_ ?_ ?_
 ·exact PRun.regionL hTT (by first | (simp only [plainO,set_last,app2s,app2s1,List.append_assoc,go_sem];done) | (simp only [plainO,set_last,app2s,app2s1,List.append_assoc,go_sem];rfl) | rfl)
 ·refine run_ofN ?_
  repeat (with_reducible (first | apply nx | apply wQ rfl | ((first | apply wV | apply wW | apply wX | (apply wy (cfOne_ok cf0_ok he hc hsl);(focus kernel_rfl)));(focus (simp only [Tryz.f117,cfOne,List.nil_append,go_sem];rfl))) | refine wz (cfOne_ok cf0_ok he hc hsl) ?_ | (refine wa ?_;refine And.intro ?_ ?_;(focus kernel_rfl))))
  refine RegQ.stop (v:=.iface 223 (.agg [.str w])) (st1:=⟨[(5,.fn (.func g) fa cap),(4,.fn (.func 168) [] [.bp sg.length 0,.bp (sg.length + 1) 0]),(3,.bp (sg.length + 1) 0),(2,.bp sg.length 0),(0,.fn (.func g) fa cap)],7,sg2⟩) (by simp only [cfOne,List.nil_append,go_sem]) ?_
  repeat (with_reducible (first | apply nx | apply wQ rfl | ((first | apply wV | apply wW | apply wX | (apply wy cf0_ok;(focus kernel_rfl)));(focus (simp only [Tryz.f117,go_sem];rfl))) | refine wz cf0_ok ?_ | (refine wa ?_;refine And.intro ?_ ?_;(focus kernel_rfl))))
  exact ⟨rfl,rfl⟩
 ·exact PRun.block (out:=.normal) (PRun.seq (st1:=⟨[(8,.bool false),(6,.iface 223 (.agg [.str w])),(0,.bp sg.length 0),(1,.bp (sg.length + 1) 0)],17,sg2⟩) (PRun.regionL hTT rfl) (PRun.cond (b:=false) rfl
   (PRun.seq (st1:=⟨[(11,.agg [ii 0]),(10,.bool false),(9,.tuple [.agg [ii 0],.bool false]),(8,.bool false),(6,.iface 223 (.agg [.str w])),(0,.bp sg.length 0),(1,.bp (sg.length + 1) 0)],17,sg2⟩) (PRun.regionL hTT rfl) (PRun.cond (b:=false) rfl
    (PRun.seq (st1:=⟨[(16,.agg [.str w]),(15,.bool true),(14,.tuple [.agg [.str w],.bool true]),(11,.agg [ii 0]),(10,.bool false),(9,.tuple [.agg [ii 0],.bool false]),(8,.bool false),(6,.iface 223 (.agg [.str w])),(0,.bp sg.length 0),(1,.bp (sg.length + 1) 0)],17,sg2⟩) (PRun.regionL hTT rfl) (PRun.cond (b:=true) rfl
     (PRun.seq (st1:=⟨[(4,.bp sg2.length 0),(16,.agg [.str w]),(15,.bool true),(14,.tuple [.agg [.str w],.bool true]),(11,.agg [ii 0]),(10,.bool false),(9,.tuple [.agg [ii 0],.bool false]),(8,.bool false),(6,.iface 223 (.agg [.str w])),(0,.bp sg.length 0),(1,.bp (sg.length + 1) 0)],17,sg2 ++ [.var [.str w] false]⟩) (PRun.regionL hTT (by simp only [plainO,set_last,get_last,go_sem])) (PRun.regionL hTT (by simp only [plainO,hd2,get_last,go_sem])))))))))
 ·simp only [Tryz.f117,hg0,hg1,go_sem]
 ·exact sameLoops_try rfl rfl hsl
 ·show sg.length < (sg ++ [_,_]).length
  simp
 ·show sg.length + 1 < (sg ++ [_,_]).length
  simp
def zeroV:PV:=.agg [ii 0,.sl .n [],.sl .n []]
def readP (t:List UInt8):PV:=if 400 < t.length then .tuple [zeroV,ii 3] else match parsedB t with
 | .error _=>.tuple [zeroV,ii 4]
 | .ok f=>if (rdS f.1 f.2.1 f.2.2).story = true then .tuple [rdV f,ii 0] else .tuple [zeroV,ii 2]
def cfP5:CallF:=cfAdd cf0 87 c87
theorem cfP5_ok:CallFOk Tryz.prog cfP5:=cfAdd_ok cf0_ok c87_ok
theorem Read_58 (t:List UInt8) (ht:t.length ≤ 100000):CallOk Tryz.prog 58 [.str t] [] (.ret (readP t)) []:=by
 refine CallOk.ofF hTT Tryz.func58 rfl rfl ?_
 unfold readP
 by_cases hl:400 < t.length
 ·rw [if_pos hl]
  have hl':(400:Int) < ((t.length:Nat):Int):=by omega
  repeat (with_reducible (first | apply nx | apply wQ rfl | ((first | apply wV | apply wW | apply wX | (apply wy cfP5_ok;(focus kernel_rfl)));(focus (simp only [Tryz.f58,hl',gt_iff_lt,go_sem];rfl))) | refine wz cfP5_ok ?_ | (refine wa ?_;refine And.intro ?_ ?_;(focus kernel_rfl))))
  exact ⟨rfl,rfl,_,rfl,leave_closed rfl⟩
 rw [if_neg hl]
 have hl':¬ (400:Int) < ((t.length:Nat):Int):=by omega
 have hp:=parsed_119 t (by omega)
 unfold parsR at hp
 have hbl:∀ cs:List PV,closedL cs = true→∀ x ∈ [Box.var [.str t] false,.var [ii 0,.sl .n [],.sl .n []] false,.var cs false],x.Lt 3:=fun cs hc x hx=>by
  simp only [List.mem_cons,List.not_mem_nil,or_false] at hx
  rcases hx with rfl | rfl | rfl
  ·exact lt_var rfl
  ·exact lt_var rfl
  ·exact lt_var hc
 have hbl5:∀ x ∈ [Box.var [.str t] false,.var [ii 0,.sl .n [],.sl .n []] false,.var [ii 0,.sl .n [],.sl .n []] false] ++ [.var [ii 0] false,.var [ii 0] false],x.Lt 5:=fun x hx=>by
  rcases List.mem_append.1 hx with hx | hx
  ·exact (hbl _ rfl x hx).mono (by simp)
  ·simp only [List.mem_cons,List.not_mem_nil,or_false] at hx
   rcases hx with rfl | rfl <;> exact lt_var rfl
 have hla:∀ x ∈ [PV.str t],Pv.Lt 0 x:=fun x hx=>by
  rw [List.mem_singleton.1 hx]
  exact lt_of_closed _ rfl
 cases hE:parsedB t with
 | error e =>
  rw [hE] at hp
  have hp:CallOk Tryz.prog 119 [.str t] [] (.pan (noneV e)) []:=hp
  have h118:CallOk Tryz.prog 118 ([] ++ ([] ++ [.bp 0 0,.bp 2 0])) ([Box.var [.str t] false,.var [ii 0,.sl .n [],.sl .n []] false,.var [ii 0,.sl .n [],.sl .n []] false] ++ [.var [ii 0] false,.var [ii 0] false]) (.pan (noneV e)) ([Box.var [.str t] false,.var [ii 0,.sl .n [],.sl .n []] false,.var [ii 0,.sl .n [],.sl .n []] false] ++ [.var [ii 0] false,.var [ii 0] false]):=by
   have hfr:=hp.framePan hla ([Box.var [.str t] false,.var [ii 0,.sl .n [],.sl .n []] false,.var [ii 0,.sl .n [],.sl .n []] false] ++ [.var [ii 0] false,.var [ii 0] false])
   refine CallOk.ofPanB Tryz.func118 rfl rfl ?_ rfl (fun b hb=>hbl5 b hb) (lt_of_closed (noneV e) rfl |>.mono (Nat.zero_le _))
   repeat (with_reducible (first | apply nx | apply wQ rfl | ((first | apply wV | apply wW | apply wX | (apply wy (cfOne_ok cf0_ok (ent Tryz.func119 rfl) hfr (SameLoops.refl _));(focus kernel_rfl)));(focus (simp only [Tryz.f118,cfOne,go_sem];rfl))) | refine wz (cfOne_ok cf0_ok (ent Tryz.func119 rfl) hfr (SameLoops.refl _)) ?_ | (refine wa ?_;refine And.intro ?_ ?_;(focus kernel_rfl))))
   refine RegQ.stop (v:=noneV e) (by first | (simp only [cfOne,go_sem];done) | (simp only [cfOne,go_sem];rfl) | rfl) ?_
   repeat (with_reducible (first | apply nx | apply wQ rfl | ((first | apply wV | apply wW | apply wX | (apply wy cf0_ok;(focus kernel_rfl)));(focus (simp only [Tryz.f118,go_sem];rfl))) | refine wz cf0_ok ?_ | (refine wa ?_;refine And.intro ?_ ?_;(focus kernel_rfl))))
   exact ⟨rfl,SameLoops.refl _,[],by simp⟩
  have h117:CallOk Tryz.prog 117 [.fn (.func 118) [] [.bp 0 0,.bp 2 0]] [Box.var [.str t] false,.var [ii 0,.sl .n [],.sl .n []] false,.var [ii 0,.sl .n [],.sl .n []] false] (.ret (.tuple [ii 0,ii 4])) [Box.var [.str t] false,.var [ii 0,.sl .n [],.sl .n []] false,.var [ii 0,.sl .n [],.sl .n []] false]:=(att117_none (ent Tryz.func118 rfl) h118 (SameLoops.refl _) rfl rfl).cut (hbl _ rfl) (lt_of_closed (.tuple [ii 0,ii 4]) rfl |>.mono (Nat.zero_le _))
  have b40:((4:Int) != 0) = true:=rfl
  repeat (with_reducible (first | apply nx | apply wQ rfl | ((first | apply wV | apply wW | apply wX | (apply wy (cfOne_ok cfP5_ok (ent Tryz.func117 rfl) h117 (SameLoops.refl _));(focus kernel_rfl)));(focus (simp only [Tryz.f58,b40,cfOne,hl',notYield,gt_iff_lt,go_sem];rfl))) | refine wz (cfOne_ok cfP5_ok (ent Tryz.func117 rfl) h117 (SameLoops.refl _)) ?_ | (refine wa ?_;refine And.intro ?_ ?_;(focus kernel_rfl))))
  exact ⟨rfl,rfl,_,rfl,leave_closed rfl⟩
 | ok f =>
  rw [hE] at hp
  have hp:CallOk Tryz.prog 119 [.str t] [] (.ret (.agg (rdS f.1 f.2.1 f.2.2).cells)) []:=hp
  have hd:=decSt_cells (rdS f.1 f.2.1 f.2.2) (rdS_ok _ _ _)
  unfold rdV
  dsimp only
  generalize rdS f.1 f.2.1 f.2.2 = s at hp hd ⊢
  have hc1:=closedL_sns s.sc
  have hc2:=closedL_rzs s.rz
  have hcf:=closed_cells s
  have hsl1:SameLoops ([Box.var [.str t] false,.var [ii 0,.sl .n [],.sl .n []] false,.var [ii 0,.sl .n [],.sl .n []] false] ++ [.var [ii 0] false,.var [ii 0] false]) ([Box.var [.str t] false,.var [ii 0,.sl .n [],.sl .n []] false,.var s.cells false] ++ [.var [ii 0] false,.var [ii 0] false]):=sameLoops_of _ _ rfl
  have h118:CallOk Tryz.prog 118 ([] ++ ([] ++ [.bp 0 0,.bp 2 0])) ([Box.var [.str t] false,.var [ii 0,.sl .n [],.sl .n []] false,.var [ii 0,.sl .n [],.sl .n []] false] ++ [.var [ii 0] false,.var [ii 0] false]) (.ret (.tuple [])) ([Box.var [.str t] false,.var [ii 0,.sl .n [],.sl .n []] false,.var s.cells false] ++ [.var [ii 0] false,.var [ii 0] false]):=by
   have hfr:=hp.frame hla ([Box.var [.str t] false,.var [ii 0,.sl .n [],.sl .n []] false,.var [ii 0,.sl .n [],.sl .n []] false] ++ [.var [ii 0] false,.var [ii 0] false])
   refine CallOk.ofB hTT Tryz.func118 rfl rfl ?_ rfl (fun b hb=>?_) (.tuple (fun c hc=>by cases hc))
   ·repeat (with_reducible (first | apply nx | apply wQ rfl | ((first | apply wV | apply wW | apply wX | (apply wy (cfOne_ok cf0_ok (ent Tryz.func119 rfl) hfr (SameLoops.refl _));(focus kernel_rfl)));(focus (simp only [Tryz.f118,cfOne,go_sem];rfl))) | refine wz (cfOne_ok cf0_ok (ent Tryz.func119 rfl) hfr (SameLoops.refl _)) ?_ | (refine wa ?_;refine And.intro ?_ ?_;(focus kernel_rfl))))
    exact ⟨rfl,hsl1,rfl,[],by simp⟩
   ·rcases List.mem_append.1 hb with hb | hb
    ·exact (hbl _ hcf b hb).mono (by simp)
    ·simp only [List.mem_cons,List.not_mem_nil,or_false] at hb
     rcases hb with rfl | rfl <;> exact lt_var rfl
  have h117:CallOk Tryz.prog 117 [.fn (.func 118) [] [.bp 0 0,.bp 2 0]] [Box.var [.str t] false,.var [ii 0,.sl .n [],.sl .n []] false,.var [ii 0,.sl .n [],.sl .n []] false] (.ret (.tuple [ii 4,ii 0])) [Box.var [.str t] false,.var [ii 0,.sl .n [],.sl .n []] false,.var s.cells false]:=(att117_ret (ent Tryz.func118 rfl) h118 hsl1 rfl rfl).cut (hbl _ hcf) (lt_of_closed (.tuple [ii 4,ii 0]) rfl |>.mono (Nat.zero_le _))
  have hsl2:SameLoops [Box.var [.str t] false,.var [ii 0,.sl .n [],.sl .n []] false,.var [ii 0,.sl .n [],.sl .n []] false] [Box.var [.str t] false,.var [ii 0,.sl .n [],.sl .n []] false,.var s.cells false]:=sameLoops_of _ _ rfl
  have b00:((0:Int) != 0) = false:=rfl
  cases hf:s.story
  ·rw [if_neg (by simp)]
   repeat (with_reducible (first | apply nx | apply wQ rfl | ((first | apply wV | apply wW | apply wX | (apply wy (cfOne_ok cfP5_ok (ent Tryz.func117 rfl) h117 hsl2);(focus kernel_rfl)));(focus (simp only [Tryz.f58,b00,cfOne,cfP5,c87,hd,hf,hl',hc1,hc2,notYield,gt_iff_lt,go_sem];rfl))) | refine wz (cfOne_ok cfP5_ok (ent Tryz.func117 rfl) h117 hsl2) ?_ | (refine wa ?_;refine And.intro ?_ ?_;(focus kernel_rfl))))
   exact ⟨rfl,rfl,_,rfl,leave_closed rfl⟩
  ·rw [if_pos rfl]
   repeat (with_reducible (first | apply nx | apply wQ rfl | ((first | apply wV | apply wW | apply wX | (apply wy (cfOne_ok cfP5_ok (ent Tryz.func117 rfl) h117 hsl2);(focus kernel_rfl)));(focus (simp only [Tryz.f58,b00,cfOne,cfP5,c87,hd,hf,hl',hc1,hc2,notYield,gt_iff_lt,go_sem];rfl))) | refine wz (cfOne_ok cfP5_ok (ent Tryz.func117 rfl) h117 hsl2) ?_ | (refine wa ?_;refine And.intro ?_ ?_;(focus kernel_rfl))))
   exact ⟨rfl,rfl,_,rfl,leave_closed (show closedL [.agg s.cells,ii 0] = true from by simp [closedL,PV.closed,closedL_sns,closedL_rzs])⟩
def c58:List PV→List Box→Option (PRes × List Box)
 | [.str t],sg=>if t.length ≤ 100000 then some (.ret (readP t),sg) else none
 | _,_=>none
theorem c58_ok:ConOk Tryz.prog 58 c58:=ConOk.of0 (ent Tryz.func58 rfl) fun args sg r sg' h=>by
 unfold c58 at h
 split at h <;> try (cases h;done)
 split at h <;> cases h
 rename_i hc
 exact ⟨_,rfl,rfl,rfl,Read_58 _ hc⟩
end Go.Pv
