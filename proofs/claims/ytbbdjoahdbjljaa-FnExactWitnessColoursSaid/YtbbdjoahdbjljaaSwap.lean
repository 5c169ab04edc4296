/- Two elements of a row of rows change places: what the row's words say behind it. -/
import Derived.Test.YtbbdjoahdbjljaaWk
namespace Go.Proofs.Ytbbdjoahdbjljaa.Sw
open Go.RowKit Go.Proofs.YtbbdjoahdbjljaaW.PrintWords Go.Proofs.YtbbdjoahdbjljaaW.PrintLast Go.Proofs.YtbbdjoahdbjljaaW.PrintMore
set_option linter.unusedVariables false
set_option linter.unusedSimpArgs false
theorem setCells_one (W:World) (g o:Nat) (v:Value):W.setCells g o [v]=W.setCell ⟨g,o,none⟩ v:=rfl
theorem set_zip (xs:List (List Int)) (i:Nat) (x:List Int):(xs.set i x).zipIdx=xs.zipIdx.set i (x,i):=by
  apply List.ext_getElem?
  intro m
  rw [List.getElem?_zipIdx,List.getElem?_set,List.getElem?_set,List.length_zipIdx]
  by_cases hm:i=m
  · subst hm
    by_cases hl:i< xs.length<;>simp [hl]
  · simp [hm,List.getElem?_zipIdx]
theorem S_swap {e base g n cap:Nat} {ok:Nat→Prop} {W:World} {xs:List (List Int)} (h:Kd.S (Kd.slice 3 (Kd.int .i64)) e W base ok (.slice (some ⟨g,0,none⟩) n cap) xs) (i j:Int) (hi0:0≤i) (hi:i< n) (hj0:0≤j) (hj:j< n):
    ∃ (ui uj:Option Addr) (ci cj li lj:Nat),
      W.cell? ⟨g,i.toNat,none⟩=some (.slice ui li ci)∧W.cell? ⟨g,j.toNat,none⟩=some (.slice uj lj cj)∧W.frozen? ⟨g,i.toNat,none⟩=false∧W.frozen? ⟨g,j.toNat,none⟩=false∧
      Kd.S (Kd.slice 3 (Kd.int .i64)) e ((W.setCell ⟨g,j.toNat,none⟩ (.slice ui li ci)).setCell ⟨g,i.toNat,none⟩ (.slice uj lj cj)) base ok (.slice (some ⟨g,0,none⟩) n cap) ((xs.set j.toNat (xs.getD i.toNat [])).set i.toNat (xs.getD j.toNat []))∧
      W.grownBy ((W.setCell ⟨g,j.toNat,none⟩ (.slice ui li ci)).setCell ⟨g,i.toNat,none⟩ (.slice uj lj cj)) (some g):=by
  have hlen:=(Kd.S_reads' h).1
  obtain ⟨f,hok,inner,ho,hr⟩:=h
  have hpl:xs.zipIdx.length=xs.length:=List.length_zipIdx
  rw [hpl] at ho
  have hz:(Kd.tag f (Kd.slice 3 (Kd.int .i64))).sz=1:=rfl
  have hil:i.toNat< xs.length:=by omega
  have hjl:j.toNat< xs.length:=by omega
  have hin:inner.length=xs.length:=by have:=hr.1;rw [hz,hpl] at this;omega
  have at_:∀ m (hm:m< xs.length),(Kd.tag f (Kd.slice 3 (Kd.int .i64))).M W base (fun k=>ok k∧some k≠(Value.slice (some ⟨g,0,none⟩) n cap).ownBlock) (xs[m],m) [inner[m]'(by omega)]:=by
    intro m hm
    have:=hr.2 m (xs[m],m) (Kd.zip_at (List.getElem?_eq_getElem hm))
    rw [hz,Nat.mul_one,List.drop_eq_getElem_cons (by omega)] at this
    exact this
  have e_i:xs.getD i.toNat []=xs[i.toNat]:=by rw [List.getD_eq_getElem?_getD,List.getElem?_eq_getElem hil];rfl
  have e_j:xs.getD j.toNat []=xs[j.toNat]:=by rw [List.getD_eq_getElem?_getD,List.getElem?_eq_getElem hjl];rfl
  obtain ⟨vi,hvi,hRi⟩:=at_ i.toNat hil
  obtain ⟨vj,hvj,hRj⟩:=at_ j.toNat hjl
  have hvi':inner[i.toNat]'(by omega)=vi:=by injection hvi
  have hvj':inner[j.toNat]'(by omega)=vj:=by injection hvj
  obtain ⟨ui,ci,rfl⟩:=Kd.R_slice hRi
  obtain ⟨uj,cj,rfl⟩:=Kd.R_slice hRj
  simp only at hvi' hvj'
  have hn:n=xs.length:=hlen
  subst hn
  have s1:=ho.stored j.toNat (.slice ui (xs[i.toNat]).length ci)
  have s2:=s1.1.stored i.toNat (.slice uj (xs[j.toNat]).length cj)
  have hg:=World.grownBy.trans s1.2 s2.2
  have c1:=ho.cells (g:=g) rfl i.toNat _ (by rw [List.getElem?_eq_getElem (by omega),hvi'])
  have c2:=ho.cells (g:=g) rfl j.toNat _ (by rw [List.getElem?_eq_getElem (by omega),hvj'])
  rw [add_plain] at c1 c2
  obtain ⟨cells,hbk⟩:=own_typed ho g rfl
  refine ⟨ui,uj,ci,cj,_,_,c1,c2,blk_frozen hbk _,blk_frozen hbk _,?_,hg⟩
  rw [e_i,e_j]
  refine ⟨fun k=>if f k=i.toNat then j.toNat else if f k=j.toNat then i.toNat else f k,hok,(inner.set j.toNat (.slice ui (xs[i.toNat]).length ci)).set i.toNat (.slice uj (xs[j.toNat]).length cj),?_,?_⟩
  · rw [List.length_zipIdx,List.length_set,List.length_set]
    exact s2.1
  · have hmove:∀ k,(ok k∧some k≠(Value.slice (some ⟨g,0,none⟩) xs.length cap).ownBlock)→k< W.heap.size→((W.setCell ⟨g,j.toNat,none⟩ (.slice ui (xs[i.toNat]).length ci)).setCell ⟨g,i.toNat,none⟩ (.slice uj (xs[j.toNat]).length cj)).heap[k]?=W.heap[k]?:=
      fun k hk hlt=>hg.block k hlt (fun he=>hk.2 (by rw [he];rfl))
    refine ⟨by rw [List.length_zipIdx,List.length_set,List.length_set,List.length_set,List.length_set,hin];exact (Nat.mul_one _).symm,fun m p hm=>?_⟩
    rw [set_zip,set_zip] at hm
    show (Kd.tag _ (Kd.slice 3 (Kd.int .i64))).M _ base _ p ((((inner.set j.toNat _).set i.toNat _).drop (m*1)).take 1)
    have hml:m< xs.length:=by
      have:=(List.getElem?_eq_some_iff.1 hm).1
      rwa [List.length_set,List.length_set,List.length_zipIdx] at this
    rw [Nat.mul_one,List.drop_eq_getElem_cons (by rw [List.length_set,List.length_set];omega)]
    show (Kd.tag _ (Kd.slice 3 (Kd.int .i64))).M _ base _ p [_]
    rw [List.getElem_set]
    rw [List.getElem?_set] at hm
    by_cases h1:i.toNat=m
    · rw [if_pos h1]
      rw [if_pos h1,if_pos (by rw [List.length_set,List.length_zipIdx];omega)] at hm
      injection hm with hm
      subst hm
      refine Kd.M_step (d:=Kd.tag _ _) ?_ hmove
      exact ⟨_,rfl,Kd.R_mono hRj (fun k hk=>⟨hk.1,by
        simp only at hk ⊢
        by_cases h3:f k=i.toNat
        · rw [if_pos h3];have:=hk.2;omega
        · rw [if_neg h3,if_pos hk.2]⟩)⟩
    · rw [if_neg h1]
      rw [if_neg h1] at hm
      rw [List.getElem_set]
      rw [List.getElem?_set] at hm
      by_cases h2:j.toNat=m
      · rw [if_pos h2]
        rw [if_pos h2,if_pos (by rw [List.length_zipIdx];omega)] at hm
        injection hm with hm
        subst hm
        refine Kd.M_step (d:=Kd.tag _ _) ?_ hmove
        exact ⟨_,rfl,Kd.R_mono hRi (fun k hk=>⟨hk.1,by simp only at hk ⊢;rw [if_pos hk.2]⟩)⟩
      · rw [if_neg h2]
        rw [if_neg h2] at hm
        rw [Kd.zip_at (List.getElem?_eq_getElem hml)] at hm
        injection hm with hm
        subst hm
        refine Kd.M_step (d:=Kd.tag _ _) ?_ hmove
        obtain ⟨vm,hvm,hRm⟩:=at_ m hml
        exact ⟨vm,hvm,Kd.R_mono hRm (fun k hk=>⟨hk.1,by
          simp only at hk ⊢
          rw [if_neg (by have:=hk.2;omega),if_neg (by have:=hk.2;omega)];exact hk.2⟩)⟩
end Go.Proofs.Ytbbdjoahdbjljaa.Sw
