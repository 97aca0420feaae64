/-
  PriceCosts: the row: what came in is read, the contract of the function gives true, and what came in stands.
-/
import Derived.Test.YtgpcmgjdkefdjaaCS11
section
set_option linter.unusedVariables false
set_option linter.unusedSimpArgs false
set_option maxHeartbeats 8000000
set_option linter.unusedSectionVars false
namespace Go.Proofs.Ytgpcmgjdkefdjaa
open Lf Go
attribute [local irreducible] PureOp EffOp Ev RG W Then InBlock Lf.Fin nth App InitE Pick EvL EvD EvP EvR ResL Lf.Lex SubR SubBR RA RAll EvC FinO FinM ResM ResD FinS val pw digs trimL
section
theorem costs_ok (l : List Fl) (d : Int) (S : List (List Fq)) (hl : l.length ≤ 9223372036854775807) (hS : S.length ≤ 9223372036854775807) (hSl : ∀ s ∈ S, s.length ≤ 9223372036854775807) :
    ACalls Try.prog 7 [slW l, cI d, slS S] (.pv (cB true)) := by
  have h0 := small_ok
  by_cases h : S.length ≤ 4 ∧ l.length ≤ 20
  case neg =>
    refine ACalls.of_W (qs := [cB true]) [6] 117 Try.func7 (by kernel_rfl) rfl rfl rfl fun G => ?_
    refine W.initA (hw := ?_)
    repeat' (first | (exfalso; omega) | ((first | apply U_ | (apply Ug_; exact rfl; exact rfl) | (apply Ugq_; exact rfl; exact rfl) | apply Lex.u | (apply Lex.g; exact rfl; exact rfl) | (apply Lex.gq; exact rfl; exact rfl)); (first | exact QX.B TYok | exact QX.Len TYok | exact QX.Idx TYok | exact QX.Ext TYok | exact QCd (h0)); exact rfl) | refine SX.Alloc TYok (h := ?_) | refine SX.Store TYok (h := ?_) | refine SC ?_ | (apply S_isnil TYok; exact rfl; exact rfl; exact rfl; exact Ev.auto; intro bn hnil) | refine SG ?_ | (apply W.draw2 (id := 18) [0, 1, 3, 7, 7, 31, 63, 127, 255, 511, 1023, 1023, 4095, 8191, 16383, 32767, 65535, 131071, 131071, 524287, 1048575, 2097151, 131071, 8388607, 16777215, 33554431, 67108863, 134217727, 134217727, 536870911, 1073741823, 2147483647, 4294967295, 134217727, 17179869183, 34359738367, 68719476735] [[13], [79], [80], [9, 81], [11, 81], [82, 83, 81], [84, 81], [85, 81], [81, 86], [87], [9, 88], [11, 88], [89, 90, 88], [91, 88], [92, 88], [88, 93], [94], [9, 95], [11, 95], [96, 97, 95], [98, 95], [99, 95], [12, 95], [100, 101, 95], [102, 95], [95, 103], [104], [9, 105], [11, 105], [106, 107, 105], [108, 105], [109, 105], [110, 105], [12, 105], [111, 112, 105], [113, 105], [105, 114]] 37 [(79, 8192), (80, 604462909807314587353088), (81, 1208925819614629174706176), (82, 2417851639229258349412864), (83, 2417851639229258349414400), (84, 16924961474604808445886464), (85, 21760664753063325144711168), (86, 41103477866897391940009984), (87, 79789104094565525530607616), (88, 154742504910672534362390528), (89, 309485009821345068724781568), (90, 309485009821345068724783104), (91, 2166395068749415481073467392), (92, 2785365088392105618523029504), (93, 5261245166962866168321277952), (94, 10213005324104387267917774848), (95, 19807040628566084398385987584), (96, 39614081257132168796771975680), (97, 39614081257132168796771977216), (98, 277298568799925181577403826176), (99, 356526731314189519170947776512), (100, 673439381371246869545123577856), (101, 39614081257132168796771979264), (102, 3842565881941820373286881591296), (103, 5110216482170049774783584796672), (104, 10180818883082967380770397618176), (105, 20282409603651670423947251286016), (106, 40564819207303340847894502572544), (107, 40564819207303340847894502574080), (108, 283953734451123385935261518004224), (109, 365083372865730067631050523148288), (110, 689601926524156794414206543724544), (111, 1338639033841010247980518584877056), (112, 40564819207303340847894502576128), (113, 7829010107009544783643638996402176), (114, 10425158536276958597908887161012224), (115, 20809752253346613854969879819452416)] mixed (by kernel_rfl) rfl rfl) | (refine W.condA (ht := fun hb => ?_) (hf := fun hb => ?_) <;> (try simp at hb) <;> (try (exfalso; omega))))
    all_goals first
      | exact Fin.ret ResL.auto
      | trace_state
  obtain ⟨h1, h2⟩ := h
  open Classical in
  have fS := fun k (hk : k < S.length) => few_ok l (nth S k) hl (hSl _ (nth_mem hk)) (decide ((l.length ≤ 20 ∧ (nth S k).length ≤ 12) ∧ fewF (nth S k))) (by simp)
  refine ACalls.of_W (qs := [cB true]) [6] 117 Try.func7 (by kernel_rfl) rfl rfl rfl fun G => ?_
  refine W.initA (hw := ?_)
  repeat' (first | (exfalso; omega) | ((first | apply U_ | (apply Ug_; exact rfl; exact rfl) | (apply Ugq_; exact rfl; exact rfl) | apply Lex.u | (apply Lex.g; exact rfl; exact rfl) | (apply Lex.gq; exact rfl; exact rfl)); (first | exact QX.B TYok | exact QX.Len TYok | exact QX.Idx TYok | exact QX.Ext TYok | exact QCd (h0)); exact rfl) | refine SX.Alloc TYok (h := ?_) | refine SX.Store TYok (h := ?_) | refine SC ?_ | (apply S_isnil TYok; exact rfl; exact rfl; exact rfl; exact Ev.auto; intro bn hnil) | refine SG ?_ | (apply W.draw2 (id := 18) [0, 1, 3, 7, 7, 31, 63, 127, 255, 511, 1023, 1023, 4095, 8191, 16383, 32767, 65535, 131071, 131071, 524287, 1048575, 2097151, 131071, 8388607, 16777215, 33554431, 67108863, 134217727, 134217727, 536870911, 1073741823, 2147483647, 4294967295, 134217727, 17179869183, 34359738367, 68719476735] [[13], [79], [80], [9, 81], [11, 81], [82, 83, 81], [84, 81], [85, 81], [81, 86], [87], [9, 88], [11, 88], [89, 90, 88], [91, 88], [92, 88], [88, 93], [94], [9, 95], [11, 95], [96, 97, 95], [98, 95], [99, 95], [12, 95], [100, 101, 95], [102, 95], [95, 103], [104], [9, 105], [11, 105], [106, 107, 105], [108, 105], [109, 105], [110, 105], [12, 105], [111, 112, 105], [113, 105], [105, 114]] 37 [(79, 8192), (80, 604462909807314587353088), (81, 1208925819614629174706176), (82, 2417851639229258349412864), (83, 2417851639229258349414400), (84, 16924961474604808445886464), (85, 21760664753063325144711168), (86, 41103477866897391940009984), (87, 79789104094565525530607616), (88, 154742504910672534362390528), (89, 309485009821345068724781568), (90, 309485009821345068724783104), (91, 2166395068749415481073467392), (92, 2785365088392105618523029504), (93, 5261245166962866168321277952), (94, 10213005324104387267917774848), (95, 19807040628566084398385987584), (96, 39614081257132168796771975680), (97, 39614081257132168796771977216), (98, 277298568799925181577403826176), (99, 356526731314189519170947776512), (100, 673439381371246869545123577856), (101, 39614081257132168796771979264), (102, 3842565881941820373286881591296), (103, 5110216482170049774783584796672), (104, 10180818883082967380770397618176), (105, 20282409603651670423947251286016), (106, 40564819207303340847894502572544), (107, 40564819207303340847894502574080), (108, 283953734451123385935261518004224), (109, 365083372865730067631050523148288), (110, 689601926524156794414206543724544), (111, 1338639033841010247980518584877056), (112, 40564819207303340847894502576128), (113, 7829010107009544783643638996402176), (114, 10425158536276958597908887161012224), (115, 20809752253346613854969879819452416)] mixed (by kernel_rfl) rfl rfl) | (refine W.condA (ht := fun hb => ?_) (hf := fun hb => ?_) <;> (try simp at hb) <;> (try (exfalso; omega))))
  apply W.loopP (σ := Nat) 117 [0, 1, 2, 7] (fun k => k ≤ S.length ∧ ∀ j, j < k → (nth S j).length ≤ 12 ∧ fewF (nth S j)) (fun k => [(8, vI k)]) (fun _ => []) (fun k => S.length - k) (0)
  case hp => repeat (first | exact Pick.nil | apply Pick.cons rfl)
  case h0 =>
    refine ⟨⟨by omega, fun j hj => by omega⟩, ?_⟩
    exact Le.auto
  case round =>
    rintro k ⟨g1, g2⟩
    apply W.norm (by repeat (first | exact App.nil | apply App.cons))
    by_cases hk : k < S.length
    · have fk := fS k hk
      by_cases hw : (l.length ≤ 20 ∧ (nth S k).length ≤ 12) ∧ fewF (nth S k)
      · rw [decide_eq_true hw] at fk
        repeat' (first | ((first | apply U_ | (apply Ug_; exact rfl; exact rfl) | (apply Ugq_; exact rfl; exact rfl) | apply Lex.u | (apply Lex.g; exact rfl; exact rfl) | (apply Lex.gq; exact rfl; exact rfl)); (first | exact QX.B TYok | exact QX.Len TYok | exact QX.Idx TYok | exact QX.Ext TYok | exact QCd (fk)); exact rfl) | refine SX.Alloc TYok (h := ?_) | refine SX.Store TYok (h := ?_) | refine SC ?_ | (apply S_isnil TYok; exact rfl; exact rfl; exact rfl; exact Ev.auto; intro bn hnil) | refine SG ?_ | (apply W.draw2 (id := 18) [0, 1, 3, 7, 7, 31, 63, 127, 255, 511, 1023, 1023, 4095, 8191, 16383, 32767, 65535, 131071, 131071, 524287, 1048575, 2097151, 131071, 8388607, 16777215, 33554431, 67108863, 134217727, 134217727, 536870911, 1073741823, 2147483647, 4294967295, 134217727, 17179869183, 34359738367, 68719476735] [[13], [79], [80], [9, 81], [11, 81], [82, 83, 81], [84, 81], [85, 81], [81, 86], [87], [9, 88], [11, 88], [89, 90, 88], [91, 88], [92, 88], [88, 93], [94], [9, 95], [11, 95], [96, 97, 95], [98, 95], [99, 95], [12, 95], [100, 101, 95], [102, 95], [95, 103], [104], [9, 105], [11, 105], [106, 107, 105], [108, 105], [109, 105], [110, 105], [12, 105], [111, 112, 105], [113, 105], [105, 114]] 37 [(79, 8192), (80, 604462909807314587353088), (81, 1208925819614629174706176), (82, 2417851639229258349412864), (83, 2417851639229258349414400), (84, 16924961474604808445886464), (85, 21760664753063325144711168), (86, 41103477866897391940009984), (87, 79789104094565525530607616), (88, 154742504910672534362390528), (89, 309485009821345068724781568), (90, 309485009821345068724783104), (91, 2166395068749415481073467392), (92, 2785365088392105618523029504), (93, 5261245166962866168321277952), (94, 10213005324104387267917774848), (95, 19807040628566084398385987584), (96, 39614081257132168796771975680), (97, 39614081257132168796771977216), (98, 277298568799925181577403826176), (99, 356526731314189519170947776512), (100, 673439381371246869545123577856), (101, 39614081257132168796771979264), (102, 3842565881941820373286881591296), (103, 5110216482170049774783584796672), (104, 10180818883082967380770397618176), (105, 20282409603651670423947251286016), (106, 40564819207303340847894502572544), (107, 40564819207303340847894502574080), (108, 283953734451123385935261518004224), (109, 365083372865730067631050523148288), (110, 689601926524156794414206543724544), (111, 1338639033841010247980518584877056), (112, 40564819207303340847894502576128), (113, 7829010107009544783643638996402176), (114, 10425158536276958597908887161012224), (115, 20809752253346613854969879819452416)] mixed (by kernel_rfl) rfl rfl) | (refine W.condA (ht := fun hb => ?_) (hf := fun hb => ?_) <;> (try simp at hb) <;> (try (exfalso; omega))))
        all_goals first
          | (refine ⟨k + 1, ⟨by omega, fun j hj => ?_⟩, ?_, by omega⟩
             · rcases Nat.lt_or_ge j k with q | q
               · exact g2 j q
               · obtain rfl : j = k := by omega
                 exact ⟨hw.1.2, hw.2⟩
             · exact Le.auto)
          | (exfalso; omega)
          | trace_state
      · rw [decide_eq_false hw] at fk
        repeat' (first | ((first | apply U_ | (apply Ug_; exact rfl; exact rfl) | (apply Ugq_; exact rfl; exact rfl) | apply Lex.u | (apply Lex.g; exact rfl; exact rfl) | (apply Lex.gq; exact rfl; exact rfl)); (first | exact QX.B TYok | exact QX.Len TYok | exact QX.Idx TYok | exact QX.Ext TYok | exact QCd (fk)); exact rfl) | refine SX.Alloc TYok (h := ?_) | refine SX.Store TYok (h := ?_) | refine SC ?_ | (apply S_isnil TYok; exact rfl; exact rfl; exact rfl; exact Ev.auto; intro bn hnil) | refine SG ?_ | (apply W.draw2 (id := 18) [0, 1, 3, 7, 7, 31, 63, 127, 255, 511, 1023, 1023, 4095, 8191, 16383, 32767, 65535, 131071, 131071, 524287, 1048575, 2097151, 131071, 8388607, 16777215, 33554431, 67108863, 134217727, 134217727, 536870911, 1073741823, 2147483647, 4294967295, 134217727, 17179869183, 34359738367, 68719476735] [[13], [79], [80], [9, 81], [11, 81], [82, 83, 81], [84, 81], [85, 81], [81, 86], [87], [9, 88], [11, 88], [89, 90, 88], [91, 88], [92, 88], [88, 93], [94], [9, 95], [11, 95], [96, 97, 95], [98, 95], [99, 95], [12, 95], [100, 101, 95], [102, 95], [95, 103], [104], [9, 105], [11, 105], [106, 107, 105], [108, 105], [109, 105], [110, 105], [12, 105], [111, 112, 105], [113, 105], [105, 114]] 37 [(79, 8192), (80, 604462909807314587353088), (81, 1208925819614629174706176), (82, 2417851639229258349412864), (83, 2417851639229258349414400), (84, 16924961474604808445886464), (85, 21760664753063325144711168), (86, 41103477866897391940009984), (87, 79789104094565525530607616), (88, 154742504910672534362390528), (89, 309485009821345068724781568), (90, 309485009821345068724783104), (91, 2166395068749415481073467392), (92, 2785365088392105618523029504), (93, 5261245166962866168321277952), (94, 10213005324104387267917774848), (95, 19807040628566084398385987584), (96, 39614081257132168796771975680), (97, 39614081257132168796771977216), (98, 277298568799925181577403826176), (99, 356526731314189519170947776512), (100, 673439381371246869545123577856), (101, 39614081257132168796771979264), (102, 3842565881941820373286881591296), (103, 5110216482170049774783584796672), (104, 10180818883082967380770397618176), (105, 20282409603651670423947251286016), (106, 40564819207303340847894502572544), (107, 40564819207303340847894502574080), (108, 283953734451123385935261518004224), (109, 365083372865730067631050523148288), (110, 689601926524156794414206543724544), (111, 1338639033841010247980518584877056), (112, 40564819207303340847894502576128), (113, 7829010107009544783643638996402176), (114, 10425158536276958597908887161012224), (115, 20809752253346613854969879819452416)] mixed (by kernel_rfl) rfl rfl) | (refine W.condA (ht := fun hb => ?_) (hf := fun hb => ?_) <;> (try simp at hb) <;> (try (exfalso; omega))))
        all_goals first
          | exact Fin.ret ResL.auto
          | (exfalso; omega)
          | trace_state
    obtain rfl : k = S.length := by omega
    have so1 : ∀ s ∈ S, fewF s := fun s hs => by
      obtain ⟨i, hi, rfl⟩ := List.getElem_of_mem hs
      rw [← nth_eq hi]
      exact (g2 i hi).2
    have so : SOk S := ⟨so1, hSl, fun s hs => few_FqOk (so1 s hs)⟩
    obtain ⟨V, e, c1, _, e1, e2, _⟩ := cost_both l d S hl hS so
    by_cases he : e = 0
    case neg =>
      have eV := e1 he
      subst eV
      repeat' (first | ((first | apply U_ | (apply Ug_; exact rfl; exact rfl) | (apply Ugq_; exact rfl; exact rfl) | apply Lex.u | (apply Lex.g; exact rfl; exact rfl) | (apply Lex.gq; exact rfl; exact rfl)); (first | exact QX.B TYok | exact QX.Len TYok | exact QX.Idx TYok | exact QX.Ext TYok | exact QCd (c1)); exact rfl) | refine SX.Alloc TYok (h := ?_) | refine SX.Store TYok (h := ?_) | refine SC ?_ | (apply S_isnil TYok; exact rfl; exact rfl; exact rfl; exact Ev.auto; intro bn hnil) | refine SG ?_ | (apply W.draw2 (id := 18) [0, 1, 3, 7, 7, 31, 63, 127, 255, 511, 1023, 1023, 4095, 8191, 16383, 32767, 65535, 131071, 131071, 524287, 1048575, 2097151, 131071, 8388607, 16777215, 33554431, 67108863, 134217727, 134217727, 536870911, 1073741823, 2147483647, 4294967295, 134217727, 17179869183, 34359738367, 68719476735] [[13], [79], [80], [9, 81], [11, 81], [82, 83, 81], [84, 81], [85, 81], [81, 86], [87], [9, 88], [11, 88], [89, 90, 88], [91, 88], [92, 88], [88, 93], [94], [9, 95], [11, 95], [96, 97, 95], [98, 95], [99, 95], [12, 95], [100, 101, 95], [102, 95], [95, 103], [104], [9, 105], [11, 105], [106, 107, 105], [108, 105], [109, 105], [110, 105], [12, 105], [111, 112, 105], [113, 105], [105, 114]] 37 [(79, 8192), (80, 604462909807314587353088), (81, 1208925819614629174706176), (82, 2417851639229258349412864), (83, 2417851639229258349414400), (84, 16924961474604808445886464), (85, 21760664753063325144711168), (86, 41103477866897391940009984), (87, 79789104094565525530607616), (88, 154742504910672534362390528), (89, 309485009821345068724781568), (90, 309485009821345068724783104), (91, 2166395068749415481073467392), (92, 2785365088392105618523029504), (93, 5261245166962866168321277952), (94, 10213005324104387267917774848), (95, 19807040628566084398385987584), (96, 39614081257132168796771975680), (97, 39614081257132168796771977216), (98, 277298568799925181577403826176), (99, 356526731314189519170947776512), (100, 673439381371246869545123577856), (101, 39614081257132168796771979264), (102, 3842565881941820373286881591296), (103, 5110216482170049774783584796672), (104, 10180818883082967380770397618176), (105, 20282409603651670423947251286016), (106, 40564819207303340847894502572544), (107, 40564819207303340847894502574080), (108, 283953734451123385935261518004224), (109, 365083372865730067631050523148288), (110, 689601926524156794414206543724544), (111, 1338639033841010247980518584877056), (112, 40564819207303340847894502576128), (113, 7829010107009544783643638996402176), (114, 10425158536276958597908887161012224), (115, 20809752253346613854969879819452416)] mixed (by kernel_rfl) rfl rfl) | (refine W.condA (ht := fun hb => ?_) (hf := fun hb => ?_) <;> (try simp at hb) <;> (try (exfalso; omega))))
      all_goals first
        | exact Fin.ret ResL.auto
        | (exfalso; omega)
        | trace_state
    obtain ⟨k1, k2, k3, k4⟩ := e2 he
    subst he
    have lV : V.length = S.length := by rw [k3]; simp
    have nV : ∀ j, j < S.length → nth V j = ceilR (vS l d (nth S j)) := fun j hj => by
      rw [nth_eq (by omega), nth_eq hj]
      simp only [k3, List.getElem_map]
    have hV := fun j (hj : j < S.length) => (value_both l d (nth S j) hl (hSl _ (nth_mem hj)) (few_FqOk (so1 _ (nth_mem hj))) (so1 _ (nth_mem hj))).1
    have hne : V = [] → False := fun q => by rw [q] at lV; simp at lV; omega
    have hb2 : ¬ (V.length : Int) = S.length ∨ V = [] → False := fun q => by
      rcases q with q | q
      · omega
      · exact hne q
    clear e1 e2 k3 g1 g2
    repeat' (first | ((first | apply U_ | (apply Ug_; exact rfl; exact rfl) | (apply Ugq_; exact rfl; exact rfl) | apply Lex.u | (apply Lex.g; exact rfl; exact rfl) | (apply Lex.gq; exact rfl; exact rfl)); (first | exact QX.B TYok | exact QX.Len TYok | exact QX.Idx TYok | exact QX.Ext TYok | exact QCd (c1)); exact rfl) | refine SX.Alloc TYok (h := ?_) | refine SX.Store TYok (h := ?_) | refine SC ?_ | (apply S_isnil TYok; exact rfl; exact rfl; exact rfl; exact Ev.auto; intro bn hnil) | refine SG ?_ | (apply W.draw2 (id := 18) [0, 1, 3, 7, 7, 31, 63, 127, 255, 511, 1023, 1023, 4095, 8191, 16383, 32767, 65535, 131071, 131071, 524287, 1048575, 2097151, 131071, 8388607, 16777215, 33554431, 67108863, 134217727, 134217727, 536870911, 1073741823, 2147483647, 4294967295, 134217727, 17179869183, 34359738367, 68719476735] [[13], [79], [80], [9, 81], [11, 81], [82, 83, 81], [84, 81], [85, 81], [81, 86], [87], [9, 88], [11, 88], [89, 90, 88], [91, 88], [92, 88], [88, 93], [94], [9, 95], [11, 95], [96, 97, 95], [98, 95], [99, 95], [12, 95], [100, 101, 95], [102, 95], [95, 103], [104], [9, 105], [11, 105], [106, 107, 105], [108, 105], [109, 105], [110, 105], [12, 105], [111, 112, 105], [113, 105], [105, 114]] 37 [(79, 8192), (80, 604462909807314587353088), (81, 1208925819614629174706176), (82, 2417851639229258349412864), (83, 2417851639229258349414400), (84, 16924961474604808445886464), (85, 21760664753063325144711168), (86, 41103477866897391940009984), (87, 79789104094565525530607616), (88, 154742504910672534362390528), (89, 309485009821345068724781568), (90, 309485009821345068724783104), (91, 2166395068749415481073467392), (92, 2785365088392105618523029504), (93, 5261245166962866168321277952), (94, 10213005324104387267917774848), (95, 19807040628566084398385987584), (96, 39614081257132168796771975680), (97, 39614081257132168796771977216), (98, 277298568799925181577403826176), (99, 356526731314189519170947776512), (100, 673439381371246869545123577856), (101, 39614081257132168796771979264), (102, 3842565881941820373286881591296), (103, 5110216482170049774783584796672), (104, 10180818883082967380770397618176), (105, 20282409603651670423947251286016), (106, 40564819207303340847894502572544), (107, 40564819207303340847894502574080), (108, 283953734451123385935261518004224), (109, 365083372865730067631050523148288), (110, 689601926524156794414206543724544), (111, 1338639033841010247980518584877056), (112, 40564819207303340847894502576128), (113, 7829010107009544783643638996402176), (114, 10425158536276958597908887161012224), (115, 20809752253346613854969879819452416)] mixed (by kernel_rfl) rfl rfl) | (refine W.condA (ht := fun hb => ?_) (hf := fun hb => ?_) <;> (try simp at hb) <;> (try (exfalso; first | exact hb2 hb | exact hne hb | omega))))
    apply W.loopP (σ := Nat) 117 [0, 1, 2, 7, 9] (fun k => k ≤ V.length) (fun k => [(11, vI k)]) (fun _ => []) (fun k => V.length - k) (0)
    case hp => repeat (first | exact Pick.nil | apply Pick.cons rfl)
    case h0 =>
      refine ⟨by omega, ?_⟩
      exact Le.auto
    case round =>
      rintro k gk
      apply W.norm (by repeat (first | exact App.nil | apply App.cons))
      by_cases hk : k < V.length
      · have v1 := hV k (by omega)
        have e0 := k2 k (by omega)
        have eV : valV l d (nth S k) = zF (vS l d (nth S k)) := if_pos e0
        rw [e0, eV] at v1
        have o : okF (vS l d (nth S k)) := (valE_zero (so1 _ (nth_mem (show k < S.length by omega))) e0).2.2
        obtain ⟨_, _, r1⟩ := good_in (k4 k (by omega))
        obtain ⟨x1, x2⟩ := ceil_spec (vS l d (nth S k))
        rw [← nV k (by omega)] at r1 x1 x2
        have i1 : i64B (nth V k) := by unfold i64B; omega
        have i2 : i64B (nth V k - 1) := by unfold i64B; omega
        have q1 := ofw_ok (nth V k) i1
        have q2 := ofw_ok (nth V k - 1) i2
        have t1 := qcmp_ok ((nth V k : Int) : Rat) (vS l d (nth S k)) (okF_int i1) o
        have t2 := qcmp_ok ((nth V k - 1 : Int) : Rat) (vS l d (nth S k)) (okF_int i2) o
        have y1 : ¬ cmpR ((nth V k : Int) : Rat) (vS l d (nth S k)) < 0 := fun q => by have := (cmpR_lt _ _).1 q; grind
        have y2 : cmpR ((nth V k - 1 : Int) : Rat) (vS l d (nth S k)) < 0 := (cmpR_lt _ _).2 x2
        clear x1 x2 eV e0 i1 i2
        generalize cmpR ((nth V k : Int) : Rat) (vS l d (nth S k)) = C1 at *
        generalize cmpR ((nth V k - 1 : Int) : Rat) (vS l d (nth S k)) = C2 at *
        generalize ((nth V k : Int) : Rat) = X1 at *
        generalize ((nth V k - 1 : Int) : Rat) = X2 at *
        generalize vS l d (nth S k) = X at *
        repeat' (first | ((first | apply U_ | (apply Ug_; exact rfl; exact rfl) | (apply Ugq_; exact rfl; exact rfl) | apply Lex.u | (apply Lex.g; exact rfl; exact rfl) | (apply Lex.gq; exact rfl; exact rfl)); (first | exact QX.B TYok | exact QX.Len TYok | exact QX.Idx TYok | exact QX.Ext TYok | exact QCd (v1) | exact QCd (q1) | exact QCd (q2) | exact QCd (t1) | exact QCd (t2)); exact rfl) | refine SX.Alloc TYok (h := ?_) | refine SX.Store TYok (h := ?_) | refine SC ?_ | (apply S_isnil TYok; exact rfl; exact rfl; exact rfl; exact Ev.auto; intro bn hnil) | refine SG ?_ | apply LexS.nil | (apply LexS.f; exact rfl; (first | (apply FreshV.alloc TYok; exact rfl; exact rfl; exact rfl; exact rfl) | (apply FreshV.lit TYok; (repeat (first | exact EvR.nil | apply EvR.cons Ev.auto)); exact rfl; exact rfl; exact rfl; exact rfl; exact rfl; exact rfl; exact rfl; exact rfl; exact rfl) | (apply FreshV.box; exact Ev.auto; exact rfl; exact rfl; exact rfl)); exact rfl; exact rfl; exact rfl) | (apply LexS.s; exact rfl; exact rfl; (apply StoreV.mk TYok; exact Ev.auto; exact Ev.auto; exact rfl; exact rfl; exact rfl; exact rfl; exact rfl)) | ((first | apply LexS.u | (apply LexS.g; exact rfl; exact rfl) | (apply LexS.gq; exact rfl; exact rfl)); (repeat (first | (apply NB.cons; exact rfl) | exact NB.nil rfl)); (first | exact QX.B TYok | exact QX.Len TYok | exact QX.Idx TYok | exact QX.Ext TYok | exact QCd (v1) | exact QCd (q1) | exact QCd (q2) | exact QCd (t1) | exact QCd (t2)); exact rfl; exact rfl; exact rfl) | (apply W.draw2 (id := 18) [0, 1, 3, 7, 7, 31, 63, 127, 255, 511, 1023, 1023, 4095, 8191, 16383, 32767, 65535, 131071, 131071, 524287, 1048575, 2097151, 131071, 8388607, 16777215, 33554431, 67108863, 134217727, 134217727, 536870911, 1073741823, 2147483647, 4294967295, 134217727, 17179869183, 34359738367, 68719476735] [[13], [79], [80], [9, 81], [11, 81], [82, 83, 81], [84, 81], [85, 81], [81, 86], [87], [9, 88], [11, 88], [89, 90, 88], [91, 88], [92, 88], [88, 93], [94], [9, 95], [11, 95], [96, 97, 95], [98, 95], [99, 95], [12, 95], [100, 101, 95], [102, 95], [95, 103], [104], [9, 105], [11, 105], [106, 107, 105], [108, 105], [109, 105], [110, 105], [12, 105], [111, 112, 105], [113, 105], [105, 114]] 37 [(79, 8192), (80, 604462909807314587353088), (81, 1208925819614629174706176), (82, 2417851639229258349412864), (83, 2417851639229258349414400), (84, 16924961474604808445886464), (85, 21760664753063325144711168), (86, 41103477866897391940009984), (87, 79789104094565525530607616), (88, 154742504910672534362390528), (89, 309485009821345068724781568), (90, 309485009821345068724783104), (91, 2166395068749415481073467392), (92, 2785365088392105618523029504), (93, 5261245166962866168321277952), (94, 10213005324104387267917774848), (95, 19807040628566084398385987584), (96, 39614081257132168796771975680), (97, 39614081257132168796771977216), (98, 277298568799925181577403826176), (99, 356526731314189519170947776512), (100, 673439381371246869545123577856), (101, 39614081257132168796771979264), (102, 3842565881941820373286881591296), (103, 5110216482170049774783584796672), (104, 10180818883082967380770397618176), (105, 20282409603651670423947251286016), (106, 40564819207303340847894502572544), (107, 40564819207303340847894502574080), (108, 283953734451123385935261518004224), (109, 365083372865730067631050523148288), (110, 689601926524156794414206543724544), (111, 1338639033841010247980518584877056), (112, 40564819207303340847894502576128), (113, 7829010107009544783643638996402176), (114, 10425158536276958597908887161012224), (115, 20809752253346613854969879819452416)] mixed (by kernel_rfl) rfl rfl) | (refine W.condA (ht := fun hb => ?_) (hf := fun hb => ?_) <;> (try simp at hb) <;> (try (exfalso; omega))))
        all_goals first
          | (refine ⟨k + 1, by omega, ?_, by omega⟩; exact Le.auto)
          | (exfalso; omega)
          | trace_state
      · obtain rfl : k = V.length := by omega
        repeat' (first | ((first | apply U_ | (apply Ug_; exact rfl; exact rfl) | (apply Ugq_; exact rfl; exact rfl) | apply Lex.u | (apply Lex.g; exact rfl; exact rfl) | (apply Lex.gq; exact rfl; exact rfl)); (first | exact QX.B TYok | exact QX.Len TYok | exact QX.Idx TYok | exact QX.Ext TYok); exact rfl) | refine SX.Alloc TYok (h := ?_) | refine SX.Store TYok (h := ?_) | refine SC ?_ | (apply S_isnil TYok; exact rfl; exact rfl; exact rfl; exact Ev.auto; intro bn hnil) | refine SG ?_ | (apply W.draw2 (id := 18) [0, 1, 3, 7, 7, 31, 63, 127, 255, 511, 1023, 1023, 4095, 8191, 16383, 32767, 65535, 131071, 131071, 524287, 1048575, 2097151, 131071, 8388607, 16777215, 33554431, 67108863, 134217727, 134217727, 536870911, 1073741823, 2147483647, 4294967295, 134217727, 17179869183, 34359738367, 68719476735] [[13], [79], [80], [9, 81], [11, 81], [82, 83, 81], [84, 81], [85, 81], [81, 86], [87], [9, 88], [11, 88], [89, 90, 88], [91, 88], [92, 88], [88, 93], [94], [9, 95], [11, 95], [96, 97, 95], [98, 95], [99, 95], [12, 95], [100, 101, 95], [102, 95], [95, 103], [104], [9, 105], [11, 105], [106, 107, 105], [108, 105], [109, 105], [110, 105], [12, 105], [111, 112, 105], [113, 105], [105, 114]] 37 [(79, 8192), (80, 604462909807314587353088), (81, 1208925819614629174706176), (82, 2417851639229258349412864), (83, 2417851639229258349414400), (84, 16924961474604808445886464), (85, 21760664753063325144711168), (86, 41103477866897391940009984), (87, 79789104094565525530607616), (88, 154742504910672534362390528), (89, 309485009821345068724781568), (90, 309485009821345068724783104), (91, 2166395068749415481073467392), (92, 2785365088392105618523029504), (93, 5261245166962866168321277952), (94, 10213005324104387267917774848), (95, 19807040628566084398385987584), (96, 39614081257132168796771975680), (97, 39614081257132168796771977216), (98, 277298568799925181577403826176), (99, 356526731314189519170947776512), (100, 673439381371246869545123577856), (101, 39614081257132168796771979264), (102, 3842565881941820373286881591296), (103, 5110216482170049774783584796672), (104, 10180818883082967380770397618176), (105, 20282409603651670423947251286016), (106, 40564819207303340847894502572544), (107, 40564819207303340847894502574080), (108, 283953734451123385935261518004224), (109, 365083372865730067631050523148288), (110, 689601926524156794414206543724544), (111, 1338639033841010247980518584877056), (112, 40564819207303340847894502576128), (113, 7829010107009544783643638996402176), (114, 10425158536276958597908887161012224), (115, 20809752253346613854969879819452416)] mixed (by kernel_rfl) rfl rfl) | (refine W.condA (ht := fun hb => ?_) (hf := fun hb => ?_) <;> (try simp at hb) <;> (try (exfalso; omega))))
        all_goals first
          | exact Fin.ret ResL.auto
          | (exfalso; omega)
          | trace_state
end
end Go.Proofs.Ytgpcmgjdkefdjaa
end
section
namespace Go.Proofs.Ytgpcmgjdkefdjaa
open Lf Go
theorem int_of1 {n : Nat} {cs : List Cell} (h : TyL TY (n + 1) 3 cs) : ∃ i : Int, cs = Lf.encI i ∧ True := by
  obtain ⟨i, rfl, _⟩ : ∃ i, cs = [.int .i64 i] ∧ (Lit.int .i64 i).wf = true := h
  exact ⟨i, rfl, trivial⟩
structure BV where
  s : Int
  l : List Int
abbrev encBV (b : BV) : List Cell := [.int .i64 b.s, .sl (b.l.map Lf.encI)]
theorem big_of {n : Nat} {cs : List Cell} (h : TyL TY (n + 3) 29 cs) : ∃ b : BV, cs = encBV b ∧ b.l.length ≤ 9223372036854775807 := by
  obtain ⟨a1, b1, rfl, t1, a2, b2, rfl, t2, rfl⟩ : ∃ a1 b1, cs = a1 ++ b1 ∧ TyL TY (n + 2) 3 a1 ∧ ∃ a2 b2, b1 = a2 ++ b2 ∧ TyL TY (n + 2) 27 a2 ∧ b2 = [] := h
  obtain ⟨s, rfl, _⟩ : ∃ i, a1 = [.int .i64 i] ∧ (Lit.int .i64 i).wf = true := t1
  obtain ⟨rows, rfl, hl, h3⟩ : ∃ rows, a2 = [Cell.sl rows] ∧ rows.length ≤ maxLen ∧ ∀ r ∈ rows, TyL TY (n + 1) 3 r := t2
  obtain ⟨l, rfl, _⟩ := rows_map (f := Lf.encI) (p := fun _ => True) fun r hr => int_of1 (h3 r hr)
  exact ⟨⟨s, l⟩, rfl, by simp only [List.length_map] at hl; unfold maxLen at hl; exact hl⟩
theorem fq_of {n : Nat} {cs : List Cell} (h : TyL TY (n + 4) 31 cs) : ∃ f : Fq, cs = encF f ∧ FqOk f := by
  obtain ⟨a1, b1, rfl, t1, a2, b2, rfl, t2, rfl⟩ : ∃ a1 b1, cs = a1 ++ b1 ∧ TyL TY (n + 3) 29 a1 ∧ ∃ a2 b2, b1 = a2 ++ b2 ∧ TyL TY (n + 3) 29 a2 ∧ b2 = [] := h
  obtain ⟨x, rfl, hx⟩ := big_of t1
  obtain ⟨y, rfl, hy⟩ := big_of t2
  exact ⟨⟨x.s, x.l, y.s, y.l⟩, rfl, hx, hy⟩
theorem fqs_of {n : Nat} {cs : List Cell} (h : TyL TY (n + 5) 23 cs) : ∃ l : List Fq, cs = encS l ∧ l.length ≤ 9223372036854775807 := by
  obtain ⟨rows, rfl, hl, h3⟩ : ∃ rows, cs = [Cell.sl rows] ∧ rows.length ≤ maxLen ∧ ∀ r ∈ rows, TyL TY (n + 4) 31 r := h
  obtain ⟨l, rfl, hq⟩ := rows_map (f := encF) (p := fun f => FqOk f) fun r hr => fq_of (n := n) (h3 r hr)
  exact ⟨l, rfl, by simp only [List.length_map] at hl; unfold maxLen at hl; exact hl⟩
theorem fqss_in {c : Cell} (h : TyL TY 6 24 [c]) : ∃ S : List (List Fq), c = .sl (S.map encS) ∧ S.length ≤ 9223372036854775807 ∧ ∀ s ∈ S, s.length ≤ 9223372036854775807 := by
  obtain ⟨rows, h1, hl, h3⟩ : ∃ rows, [c] = [Cell.sl rows] ∧ rows.length ≤ maxLen ∧ ∀ r ∈ rows, TyL TY 5 23 r := h
  obtain rfl := (List.cons.inj h1).1
  obtain ⟨S, rfl, hq⟩ := rows_map (f := encS) (p := fun l => l.length ≤ 9223372036854775807) fun r hr => fqs_of (n := 0) (h3 r hr)
  exact ⟨S, rfl, by simp only [List.length_map] at hl; unfold maxLen at hl; exact hl, hq⟩
theorem flow_of {n : Nat} {cs : List Cell} (h : TyL TY (n + 2) 44 cs) : ∃ f : Fl, cs = encW f ∧ True := by
  obtain ⟨a1, b1, rfl, t1, a2, b2, rfl, t2, rfl⟩ : ∃ a1 b1, cs = a1 ++ b1 ∧ TyL TY (n + 1) 3 a1 ∧ ∃ a2 b2, b1 = a2 ++ b2 ∧ TyL TY (n + 1) 3 a2 ∧ b2 = [] := h
  obtain ⟨i1, rfl, _⟩ : ∃ i, a1 = [.int .i64 i] ∧ (Lit.int .i64 i).wf = true := t1
  obtain ⟨i2, rfl, _⟩ : ∃ i, a2 = [.int .i64 i] ∧ (Lit.int .i64 i).wf = true := t2
  exact ⟨⟨i1, i2⟩, rfl, trivial⟩
theorem flows_in {c : Cell} (h : TyL TY 4 22 [c]) : ∃ l : List Fl, c = .sl (l.map encW) ∧ l.length ≤ 9223372036854775807 := by
  obtain ⟨rows, h1, hl, h3⟩ : ∃ rows, [c] = [Cell.sl rows] ∧ rows.length ≤ maxLen ∧ ∀ r ∈ rows, TyL TY 3 44 r := h
  obtain rfl := (List.cons.inj h1).1
  obtain ⟨l, rfl, _⟩ := rows_map (f := encW) (p := fun _ => True) fun r hr => flow_of (n := 1) (h3 r hr)
  exact ⟨l, rfl, by simp only [List.length_map] at hl; unfold maxLen at hl; exact hl⟩
end Go.Proofs.Ytgpcmgjdkefdjaa
end
section
namespace Go.Proofs.Ytgpcmgjdkefdjaa
open Lf Go Go.ChangeShapes Go.WideShapes Go.ChangeAt Go.RowKit
namespace CostsRow
theorem own : ownKnob Try.prog.godebug = none := by kernel_rfl
theorem laidOut : laidOutB Try.prog = true := by kernel_rfl
set_option maxRecDepth 100000 in
theorem lifted (os : Os) (started : os.Started) (H : Type) (enc : TypeId × Value → H) :
    ReturnsInHanded {} Try.checked os 7 .any (Rows.priceCostsSpec.pre6 enc Try.prog Try.f7 Rows.priceCostsRow.domain false) (Rows.priceCostsSpec.post enc Try.prog Try.f7 false true false false) := by
  refine returnsInHanded_of_change (C := Try.checked) own started (by kernel_rfl) Try.func7
    (ChangeSpec.witness6 (enc := enc) (C := Try.checked) false ⟨#[], #[.slice none 0 0, .int .i64 0, .slice none 0 0], []⟩ 8 (by kernel_rfl) (by kernel_rfl) (by kernel_rfl) (by kernel_rfl)) ?_
  intro W base args ds gs before hval0 hW hcnd _
  have hval : ∀ (j : Nat) t v, Try.f7.params[j]? = some t → args[j]? = some v → Value.okWide Try.prog W .any base t v := hval0
  have hW' := hW
  obtain ⟨p, q, hA0, hV, rfl, hfz, hnd⟩ := hW
  have hA : DataW.TrodAll enc Try.prog W 0 (fun _ => true) true Try.f7.params.toList args.toList ds p := hA0
  rw [Try.params7] at hA hval
  obtain ⟨v0, vs0, d0, ds0, p0, q0, hargs, rfl, rfl, h0, r0⟩ := trodAll_cons hA
  obtain ⟨v1, vs1, d1, ds1, p1, q1, rfl, rfl, rfl, h1, r1⟩ := trodAll_cons r0
  obtain ⟨v2, vs2, d2, ds2, p2, q2, rfl, rfl, rfl, h2, r2⟩ := trodAll_cons r1
  obtain ⟨rfl, rfl, rfl⟩ := trodAll_nil r2
  obtain rfl : args = #[v0, v1, v2] := by cases args; simp_all
  obtain ⟨rfl, rfl⟩ := trodVars_none hV
  have k0 := h0
  have lt0 : ∀ x ∈ p0, x.block < W.heap.size := by obtain ⟨m, hm⟩ := k0; exact DataW.trod_lt m _ _ _ hm
  obtain ⟨c0, rel0, ty0⟩ := read_slice TYok 4 Try.underlying22 (by kernel_rfl) (hval 0 22 v0 rfl rfl) h0
  obtain ⟨a0, rfl, w0⟩ := flows_in ty0
  obtain ⟨a1, rfl, rfl, rfl, w1⟩ := open_int Try.underlying3 (hval 1 3 v1 rfl rfl) h1
  have k2 := h2
  have lt2 : ∀ x ∈ p2, x.block < W.heap.size := by obtain ⟨m, hm⟩ := k2; exact DataW.trod_lt m _ _ _ hm
  obtain ⟨c2, rel2, ty2⟩ := read_slice TYok 6 Try.underlying24 (by kernel_rfl) (hval 2 24 v2 rfl rfl) h2
  obtain ⟨a2, rfl, w2⟩ := fqss_in ty2
  clear hA0 hval0
  have hc := (costs_ok a0 a1 a2 w0 w2.1 w2.2).calls (allΦ W) W #[v0, .int .i64 a1, v2] (fits_all W)
    (ArgsRel.of (ArgsL.cons rel0 (ArgsL.cons (Rel.int _ _) (ArgsL.cons rel2 ArgsL.nil))))
  refine hc.mono fun e W' ⟨v, Φ', he, hv, _, _, _, bel⟩ => ?_
  subst he
  obtain rfl : v = .bool true := AVRel.bool hv
  exact ⟨_, rfl, _, _, _, [], _, [], hW', trodAll_mk1 (shut_bool Try.underlying4 _), (trodAll_cons_mk (Below.trod laidOut (by kernel_rfl) (of_decide_eq_true (by kernel_rfl)) k0 bel lt0) (trodAll_cons_mk (shut_int Try.underlying3 w1) (trodAll_cons_mk (Below.trod laidOut (by kernel_rfl) (of_decide_eq_true (by kernel_rfl)) k2 bel lt2) trodAll_mk0))), rfl, bel.frame _, fun h => by cases h⟩
theorem over : Rows.priceCostsRow.holds Try.pinned (OpenSpec.ofChange Rows.priceCostsSpec) :=
  OpenClaim.holds_of_wide 7 Try.f7 rfl rfl rfl rfl rfl rfl rfl ⟨rfl, rfl, rfl, rfl, rfl⟩ rfl rfl rfl rfl rfl (by kernel_rfl) Try.func7 (by kernel_rfl)
    (of_decide_eq_true (by kernel_rfl)) (by unfold Func.isWrapper; first | (rw [if_pos (by decide +kernel)]; kernel_rfl) | (rw [if_neg (by decide +kernel)]; exact ⟨rfl, rfl⟩))
    (fun os started H enc _ => lifted os started H enc)
end CostsRow
theorem priceCosts_proved : Rows.PriceCostsSaid := CostsRow.over
end Go.Proofs.Ytgpcmgjdkefdjaa
end
