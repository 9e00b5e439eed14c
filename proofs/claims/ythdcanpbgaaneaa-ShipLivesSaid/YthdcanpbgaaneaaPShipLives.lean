/- If nothing is lost, resending applies all records and makes them known: the law ShipLives returns true. No condition. -/
import Derived.Test.YthdcanpbgaaneaaPShipP
import Derived.Test.YthdcanpbgaaneaaPShipL
import Derived.WalkKit
import Derived.Handy
import Derived.ProofKit
import Derived.OpenShut
import Derived.ShutString
import Derived.ChangeOld
import Derived.Below
import Derived.Lib.Hide
import Derived.WalkLawsBesides
import Derived.WalkSpells
import Derived.Deep.QuietTactic
import Derived.BigQuiet
import Derived.Outline
namespace Go.Proofs.Ythdcanpbgaaneaa
set_option linter.unusedSimpArgs false
set_option linter.unusedVariables false
open Go.ChangeShapes Go.WideShapes Go.ChangeAt Go.RowKit
open Go.ChangeMaps (open_string shut_string)
set_option maxRecDepth 100000
set_option maxHeartbeats 4000000
abbrev slq0 (l : List Act) (blocks : Int) : LS := [(18, .lst 3 (l.map Act.cs)), (17, VI blocks), (0, VI blocks), (1, .lst 3 (l.map Act.cs))]
abbrev slq1 (blocks : Int) (l : List Act) : AV := .agg [.lst 1 ((((Ship.sailP blocks l).1).first).map cZ), .lst 1 ((((Ship.sailP blocks l).1).second).map cZ), .lst 2 ((((Ship.sailP blocks l).1).log).map Record.cs), VI (((Ship.sailP blocks l).1).sent), VI (((Ship.sailP blocks l).1).applied), VI (((Ship.sailP blocks l).1).known), .lst 1 ((((Ship.sailP blocks l).1).there).map cI), .lst 1 ((((Ship.sailP blocks l).1).back).map cI)]
abbrev slq2 (blocks : Int) (l : List Act) : OB := some ⟨8, [[.lst 1 ((((Ship.sailP blocks l).1).first).map cZ), .lst 1 ((((Ship.sailP blocks l).1).second).map cZ), .lst 2 ((((Ship.sailP blocks l).1).log).map Record.cs), VI (((Ship.sailP blocks l).1).sent), VI (((Ship.sailP blocks l).1).applied), VI (((Ship.sailP blocks l).1).known), .lst 1 ((((Ship.sailP blocks l).1).there).map cI), .lst 1 ((((Ship.sailP blocks l).1).back).map cI)]]⟩
abbrev slq3 (c : Ship) : OB := some ⟨8, [[.lst 1 (c.first.map cZ), .lst 1 (c.second.map cZ), .lst 2 (c.log.map Record.cs), VI c.sent, VI c.applied, VI c.known, .lst 1 (c.there.map cI), .lst 1 (c.back.map cI)]]⟩
abbrev slq4 (c : Ship) : LS := [(27, .lst 1 (c.there.map cI)), (26, .ref 0 8 0 6), (5, .ref 0 8 0 0)]
abbrev slq5 (c : Ship) : AV := .agg [.lst 1 (c.first.map cZ), .lst 1 (c.second.map cZ), .lst 2 (c.log.map Record.cs), VI c.sent, VI c.applied, VI c.known, .lst 1 (c.there.map cI), .lst 1 (c.back.map cI)]
abbrev slq6 (c : Ship) : LS := [(31, (slq5 c)), (29, .v (.bool true)), (5, .ref 0 8 0 0)]
abbrev slq7 : AV := .agg [VI ((⟨4, 0, (⟨#[]⟩)⟩ : Act).kind), VI ((⟨4, 0, (⟨#[]⟩)⟩ : Act).n), .v (.string ((⟨4, 0, (⟨#[]⟩)⟩ : Act).data))]
abbrev slq8 (c : Ship) : AV := .agg [.lst 1 ((((c.doP (⟨4, 0, (⟨#[]⟩)⟩ : Act)).1).first).map cZ), .lst 1 ((((c.doP (⟨4, 0, (⟨#[]⟩)⟩ : Act)).1).second).map cZ), .lst 2 ((((c.doP (⟨4, 0, (⟨#[]⟩)⟩ : Act)).1).log).map Record.cs), VI (((c.doP (⟨4, 0, (⟨#[]⟩)⟩ : Act)).1).sent), VI (((c.doP (⟨4, 0, (⟨#[]⟩)⟩ : Act)).1).applied), VI (((c.doP (⟨4, 0, (⟨#[]⟩)⟩ : Act)).1).known), .lst 1 ((((c.doP (⟨4, 0, (⟨#[]⟩)⟩ : Act)).1).there).map cI), .lst 1 ((((c.doP (⟨4, 0, (⟨#[]⟩)⟩ : Act)).1).back).map cI)]
abbrev slq9 (c : Ship) : LS := (33, .tup [(slq8 c), VI ((c.doP (⟨4, 0, (⟨#[]⟩)⟩ : Act)).2)]) :: (32, slq7) :: (slq6 c)
abbrev slq10 (c : Ship) : OB := some ⟨8, [[.lst 1 ((((c.doP (⟨4, 0, (⟨#[]⟩)⟩ : Act)).1).first).map cZ), .lst 1 ((((c.doP (⟨4, 0, (⟨#[]⟩)⟩ : Act)).1).second).map cZ), .lst 2 ((((c.doP (⟨4, 0, (⟨#[]⟩)⟩ : Act)).1).log).map Record.cs), VI (((c.doP (⟨4, 0, (⟨#[]⟩)⟩ : Act)).1).sent), VI (((c.doP (⟨4, 0, (⟨#[]⟩)⟩ : Act)).1).applied), VI (((c.doP (⟨4, 0, (⟨#[]⟩)⟩ : Act)).1).known), .lst 1 ((((c.doP (⟨4, 0, (⟨#[]⟩)⟩ : Act)).1).there).map cI), .lst 1 ((((c.doP (⟨4, 0, (⟨#[]⟩)⟩ : Act)).1).back).map cI)]]⟩
abbrev slq11 (c : Ship) : LS := [(8, VI ((c.doP (⟨4, 0, (⟨#[]⟩)⟩ : Act)).2)), (7, .ref 1 8 0 0), (5, .ref 0 8 0 0)]
abbrev slq12 (c : Ship) : LS := (36, VI ((c.doP (⟨4, 0, (⟨#[]⟩)⟩ : Act)).2)) :: (slq11 c)
abbrev slq13 : LS := [(47, .v (.bool true)), (7, .ref 1 8 0 0), (5, .ref 0 8 0 0)]
abbrev slq14 (c : Ship) : LS := (40, .lst 1 ((((c.doP (⟨4, 0, (⟨#[]⟩)⟩ : Act)).1).there).map cI)) :: (39, .ref 1 8 0 6) :: (38, .v (.bool false)) :: (37, .v (.bool false)) :: (slq12 c)
abbrev slq15 (c : Ship) : LS := (41, VI (List.length (((c.doP (⟨4, 0, (⟨#[]⟩)⟩ : Act)).1).there) : Int)) :: (slq14 c)
abbrev slq16 (c : Ship) : LS := (43, .lst 1 (c.there.map cI)) :: (42, .ref 0 8 0 6) :: (slq15 c)
abbrev slq17 (c : Ship) : LS := [(48, (slq8 c)), (47, .v (.bool false)), (7, .ref 1 8 0 0), (5, .ref 0 8 0 0)]
abbrev slq18 (d : Ship) : OB := some ⟨8, [[.lst 1 (d.first.map cZ), .lst 1 (d.second.map cZ), .lst 2 (d.log.map Record.cs), VI d.sent, VI d.applied, VI d.known, .lst 1 (d.there.map cI), .lst 1 (d.back.map cI)]]⟩
abbrev slq19 (d : Ship) : LS := [(50, .lst 1 (d.back.map cI)), (49, .ref 0 8 0 7), (5, .ref 0 8 0 0)]
abbrev slq20 (d : Ship) : AV := .agg [.lst 1 (d.first.map cZ), .lst 1 (d.second.map cZ), .lst 2 (d.log.map Record.cs), VI d.sent, VI d.applied, VI d.known, .lst 1 (d.there.map cI), .lst 1 (d.back.map cI)]
abbrev slq21 (d : Ship) : LS := [(54, (slq20 d)), (52, .v (.bool true)), (5, .ref 0 8 0 0)]
abbrev slq22 : AV := .agg [VI ((⟨6, 0, (⟨#[]⟩)⟩ : Act).kind), VI ((⟨6, 0, (⟨#[]⟩)⟩ : Act).n), .v (.string ((⟨6, 0, (⟨#[]⟩)⟩ : Act).data))]
abbrev slq23 (d : Ship) : AV := .agg [.lst 1 ((((d.doP (⟨6, 0, (⟨#[]⟩)⟩ : Act)).1).first).map cZ), .lst 1 ((((d.doP (⟨6, 0, (⟨#[]⟩)⟩ : Act)).1).second).map cZ), .lst 2 ((((d.doP (⟨6, 0, (⟨#[]⟩)⟩ : Act)).1).log).map Record.cs), VI (((d.doP (⟨6, 0, (⟨#[]⟩)⟩ : Act)).1).sent), VI (((d.doP (⟨6, 0, (⟨#[]⟩)⟩ : Act)).1).applied), VI (((d.doP (⟨6, 0, (⟨#[]⟩)⟩ : Act)).1).known), .lst 1 ((((d.doP (⟨6, 0, (⟨#[]⟩)⟩ : Act)).1).there).map cI), .lst 1 ((((d.doP (⟨6, 0, (⟨#[]⟩)⟩ : Act)).1).back).map cI)]
abbrev slq24 (d : Ship) : LS := (56, .tup [(slq23 d), VI ((d.doP (⟨6, 0, (⟨#[]⟩)⟩ : Act)).2)]) :: (55, slq22) :: (slq21 d)
abbrev slq25 (d : Ship) : OB := some ⟨8, [[.lst 1 ((((d.doP (⟨6, 0, (⟨#[]⟩)⟩ : Act)).1).first).map cZ), .lst 1 ((((d.doP (⟨6, 0, (⟨#[]⟩)⟩ : Act)).1).second).map cZ), .lst 2 ((((d.doP (⟨6, 0, (⟨#[]⟩)⟩ : Act)).1).log).map Record.cs), VI (((d.doP (⟨6, 0, (⟨#[]⟩)⟩ : Act)).1).sent), VI (((d.doP (⟨6, 0, (⟨#[]⟩)⟩ : Act)).1).applied), VI (((d.doP (⟨6, 0, (⟨#[]⟩)⟩ : Act)).1).known), .lst 1 ((((d.doP (⟨6, 0, (⟨#[]⟩)⟩ : Act)).1).there).map cI), .lst 1 ((((d.doP (⟨6, 0, (⟨#[]⟩)⟩ : Act)).1).back).map cI)]]⟩
abbrev slq26 (d : Ship) : LS := [(10, VI ((d.doP (⟨6, 0, (⟨#[]⟩)⟩ : Act)).2)), (9, .ref 1 8 0 0), (5, .ref 0 8 0 0)]
abbrev slq27 (d : Ship) : LS := (59, VI ((d.doP (⟨6, 0, (⟨#[]⟩)⟩ : Act)).2)) :: (slq26 d)
abbrev slq28 : LS := [(70, .v (.bool true)), (9, .ref 1 8 0 0), (5, .ref 0 8 0 0)]
abbrev slq29 (d : Ship) : LS := (63, .lst 1 ((((d.doP (⟨6, 0, (⟨#[]⟩)⟩ : Act)).1).back).map cI)) :: (62, .ref 1 8 0 7) :: (61, .v (.bool false)) :: (60, .v (.bool false)) :: (slq27 d)
abbrev slq30 (d : Ship) : LS := (64, VI (List.length (((d.doP (⟨6, 0, (⟨#[]⟩)⟩ : Act)).1).back) : Int)) :: (slq29 d)
abbrev slq31 (d : Ship) : LS := (66, .lst 1 (d.back.map cI)) :: (65, .ref 0 8 0 7) :: (slq30 d)
abbrev slq32 (d : Ship) : LS := [(71, (slq23 d)), (70, .v (.bool false)), (9, .ref 1 8 0 0), (5, .ref 0 8 0 0)]
abbrev slq33 (d : Ship) : LS := [(73, (slq20 d)), (52, .v (.bool false)), (5, .ref 0 8 0 0)]
abbrev slq34 : AV := .agg [VI ((⟨7, 0, (⟨#[]⟩)⟩ : Act).kind), VI ((⟨7, 0, (⟨#[]⟩)⟩ : Act).n), .v (.string ((⟨7, 0, (⟨#[]⟩)⟩ : Act).data))]
abbrev slq35 (d : Ship) : AV := .agg [.lst 1 ((((d.doP (⟨7, 0, (⟨#[]⟩)⟩ : Act)).1).first).map cZ), .lst 1 ((((d.doP (⟨7, 0, (⟨#[]⟩)⟩ : Act)).1).second).map cZ), .lst 2 ((((d.doP (⟨7, 0, (⟨#[]⟩)⟩ : Act)).1).log).map Record.cs), VI (((d.doP (⟨7, 0, (⟨#[]⟩)⟩ : Act)).1).sent), VI (((d.doP (⟨7, 0, (⟨#[]⟩)⟩ : Act)).1).applied), VI (((d.doP (⟨7, 0, (⟨#[]⟩)⟩ : Act)).1).known), .lst 1 ((((d.doP (⟨7, 0, (⟨#[]⟩)⟩ : Act)).1).there).map cI), .lst 1 ((((d.doP (⟨7, 0, (⟨#[]⟩)⟩ : Act)).1).back).map cI)]
abbrev slq36 (d : Ship) : LS := (75, .tup [(slq35 d), VI ((d.doP (⟨7, 0, (⟨#[]⟩)⟩ : Act)).2)]) :: (74, slq34) :: (slq33 d)
abbrev slq37 (d : Ship) : OB := some ⟨8, [[.lst 1 ((((d.doP (⟨7, 0, (⟨#[]⟩)⟩ : Act)).1).first).map cZ), .lst 1 ((((d.doP (⟨7, 0, (⟨#[]⟩)⟩ : Act)).1).second).map cZ), .lst 2 ((((d.doP (⟨7, 0, (⟨#[]⟩)⟩ : Act)).1).log).map Record.cs), VI (((d.doP (⟨7, 0, (⟨#[]⟩)⟩ : Act)).1).sent), VI (((d.doP (⟨7, 0, (⟨#[]⟩)⟩ : Act)).1).applied), VI (((d.doP (⟨7, 0, (⟨#[]⟩)⟩ : Act)).1).known), .lst 1 ((((d.doP (⟨7, 0, (⟨#[]⟩)⟩ : Act)).1).there).map cI), .lst 1 ((((d.doP (⟨7, 0, (⟨#[]⟩)⟩ : Act)).1).back).map cI)]]⟩
abbrev slq38 (f : Ship) : OB := some ⟨8, [[.lst 1 (f.first.map cZ), .lst 1 (f.second.map cZ), .lst 2 (f.log.map Record.cs), VI f.sent, VI f.applied, VI f.known, .lst 1 (f.there.map cI), .lst 1 (f.back.map cI)]]⟩
abbrev slq39 (f : Ship) (i : Int) : LS := [(84, .lst 2 (f.log.map Record.cs)), (83, .ref 0 8 0 2), (82, VI i), (5, .ref 0 8 0 0), (12, VI i)]
abbrev slq40 (f : Ship) : AV := .agg [.lst 1 (f.first.map cZ), .lst 1 (f.second.map cZ), .lst 2 (f.log.map Record.cs), VI f.sent, VI f.applied, VI f.known, .lst 1 (f.there.map cI), .lst 1 (f.back.map cI)]
abbrev slq41 (f : Ship) (i : Int) : LS := [(90, (slq40 f)), (86, .v (.bool true)), (5, .ref 0 8 0 0), (12, VI i)]
abbrev slq42 : AV := .agg [VI ((⟨2, 0, (⟨#[]⟩)⟩ : Act).kind), VI ((⟨2, 0, (⟨#[]⟩)⟩ : Act).n), .v (.string ((⟨2, 0, (⟨#[]⟩)⟩ : Act).data))]
abbrev slq43 : AV := .agg [VI ((⟨3, 0, (⟨#[]⟩)⟩ : Act).kind), VI ((⟨3, 0, (⟨#[]⟩)⟩ : Act).n), .v (.string ((⟨3, 0, (⟨#[]⟩)⟩ : Act).data))]
abbrev slq44 : AV := .agg [VI ((⟨5, 0, (⟨#[]⟩)⟩ : Act).kind), VI ((⟨5, 0, (⟨#[]⟩)⟩ : Act).n), .v (.string ((⟨5, 0, (⟨#[]⟩)⟩ : Act).data))]
abbrev slq45 : OB := some ⟨3, [[VI ((⟨2, 0, (⟨#[]⟩)⟩ : Act).kind), VI ((⟨2, 0, (⟨#[]⟩)⟩ : Act).n), .v (.string ((⟨2, 0, (⟨#[]⟩)⟩ : Act).data))], [VI ((⟨3, 0, (⟨#[]⟩)⟩ : Act).kind), VI ((⟨3, 0, (⟨#[]⟩)⟩ : Act).n), .v (.string ((⟨3, 0, (⟨#[]⟩)⟩ : Act).data))], [VI ((⟨5, 0, (⟨#[]⟩)⟩ : Act).kind), VI ((⟨5, 0, (⟨#[]⟩)⟩ : Act).n), .v (.string ((⟨5, 0, (⟨#[]⟩)⟩ : Act).data))]]⟩
abbrev slq46 (f : Ship) (i : Int) : LS := (94, .own 1 3 0 3) :: (93, slq44) :: (92, slq43) :: (91, slq42) :: (slq41 f i)
abbrev slq47 (f : Ship) : AV := .agg [.lst 1 ((((f.runP ([(⟨2, 0, (⟨#[]⟩)⟩ : Act), (⟨3, 0, (⟨#[]⟩)⟩ : Act), (⟨5, 0, (⟨#[]⟩)⟩ : Act)])).1).first).map cZ), .lst 1 ((((f.runP ([(⟨2, 0, (⟨#[]⟩)⟩ : Act), (⟨3, 0, (⟨#[]⟩)⟩ : Act), (⟨5, 0, (⟨#[]⟩)⟩ : Act)])).1).second).map cZ), .lst 2 ((((f.runP ([(⟨2, 0, (⟨#[]⟩)⟩ : Act), (⟨3, 0, (⟨#[]⟩)⟩ : Act), (⟨5, 0, (⟨#[]⟩)⟩ : Act)])).1).log).map Record.cs), VI (((f.runP ([(⟨2, 0, (⟨#[]⟩)⟩ : Act), (⟨3, 0, (⟨#[]⟩)⟩ : Act), (⟨5, 0, (⟨#[]⟩)⟩ : Act)])).1).sent), VI (((f.runP ([(⟨2, 0, (⟨#[]⟩)⟩ : Act), (⟨3, 0, (⟨#[]⟩)⟩ : Act), (⟨5, 0, (⟨#[]⟩)⟩ : Act)])).1).applied), VI (((f.runP ([(⟨2, 0, (⟨#[]⟩)⟩ : Act), (⟨3, 0, (⟨#[]⟩)⟩ : Act), (⟨5, 0, (⟨#[]⟩)⟩ : Act)])).1).known), .lst 1 ((((f.runP ([(⟨2, 0, (⟨#[]⟩)⟩ : Act), (⟨3, 0, (⟨#[]⟩)⟩ : Act), (⟨5, 0, (⟨#[]⟩)⟩ : Act)])).1).there).map cI), .lst 1 ((((f.runP ([(⟨2, 0, (⟨#[]⟩)⟩ : Act), (⟨3, 0, (⟨#[]⟩)⟩ : Act), (⟨5, 0, (⟨#[]⟩)⟩ : Act)])).1).back).map cI)]
abbrev slq48 (f : Ship) (i : Int) : LS := (95, .tup [(slq47 f), VI ((f.runP ([(⟨2, 0, (⟨#[]⟩)⟩ : Act), (⟨3, 0, (⟨#[]⟩)⟩ : Act), (⟨5, 0, (⟨#[]⟩)⟩ : Act)])).2.1), VI ((f.runP ([(⟨2, 0, (⟨#[]⟩)⟩ : Act), (⟨3, 0, (⟨#[]⟩)⟩ : Act), (⟨5, 0, (⟨#[]⟩)⟩ : Act)])).2.2)]) :: (slq46 f i)
abbrev slq49 (f : Ship) : OB := some ⟨8, [[.lst 1 ((((f.runP ([(⟨2, 0, (⟨#[]⟩)⟩ : Act), (⟨3, 0, (⟨#[]⟩)⟩ : Act), (⟨5, 0, (⟨#[]⟩)⟩ : Act)])).1).first).map cZ), .lst 1 ((((f.runP ([(⟨2, 0, (⟨#[]⟩)⟩ : Act), (⟨3, 0, (⟨#[]⟩)⟩ : Act), (⟨5, 0, (⟨#[]⟩)⟩ : Act)])).1).second).map cZ), .lst 2 ((((f.runP ([(⟨2, 0, (⟨#[]⟩)⟩ : Act), (⟨3, 0, (⟨#[]⟩)⟩ : Act), (⟨5, 0, (⟨#[]⟩)⟩ : Act)])).1).log).map Record.cs), VI (((f.runP ([(⟨2, 0, (⟨#[]⟩)⟩ : Act), (⟨3, 0, (⟨#[]⟩)⟩ : Act), (⟨5, 0, (⟨#[]⟩)⟩ : Act)])).1).sent), VI (((f.runP ([(⟨2, 0, (⟨#[]⟩)⟩ : Act), (⟨3, 0, (⟨#[]⟩)⟩ : Act), (⟨5, 0, (⟨#[]⟩)⟩ : Act)])).1).applied), VI (((f.runP ([(⟨2, 0, (⟨#[]⟩)⟩ : Act), (⟨3, 0, (⟨#[]⟩)⟩ : Act), (⟨5, 0, (⟨#[]⟩)⟩ : Act)])).1).known), .lst 1 ((((f.runP ([(⟨2, 0, (⟨#[]⟩)⟩ : Act), (⟨3, 0, (⟨#[]⟩)⟩ : Act), (⟨5, 0, (⟨#[]⟩)⟩ : Act)])).1).there).map cI), .lst 1 ((((f.runP ([(⟨2, 0, (⟨#[]⟩)⟩ : Act), (⟨3, 0, (⟨#[]⟩)⟩ : Act), (⟨5, 0, (⟨#[]⟩)⟩ : Act)])).1).back).map cI)]]⟩
abbrev slq50 (f : Ship) (i : Int) : LS := [(15, VI ((f.runP ([(⟨2, 0, (⟨#[]⟩)⟩ : Act), (⟨3, 0, (⟨#[]⟩)⟩ : Act), (⟨5, 0, (⟨#[]⟩)⟩ : Act)])).2.2)), (14, VI ((f.runP ([(⟨2, 0, (⟨#[]⟩)⟩ : Act), (⟨3, 0, (⟨#[]⟩)⟩ : Act), (⟨5, 0, (⟨#[]⟩)⟩ : Act)])).2.1)), (13, .ref 2 8 0 0), (5, .ref 0 8 0 0), (12, VI i)]
abbrev slq51 (f : Ship) (i : Int) : LS := (99, VI ((f.runP ([(⟨2, 0, (⟨#[]⟩)⟩ : Act), (⟨3, 0, (⟨#[]⟩)⟩ : Act), (⟨5, 0, (⟨#[]⟩)⟩ : Act)])).2.2)) :: (slq50 f i)
abbrev slq52 (i : Int) : LS := [(112, .v (.bool true)), (13, .ref 2 8 0 0), (5, .ref 0 8 0 0), (12, VI i)]
abbrev slq53 (f : Ship) (i : Int) : LS := (102, VI ((f.runP ([(⟨2, 0, (⟨#[]⟩)⟩ : Act), (⟨3, 0, (⟨#[]⟩)⟩ : Act), (⟨5, 0, (⟨#[]⟩)⟩ : Act)])).2.1)) :: (101, .v (.bool false)) :: (100, .v (.bool false)) :: (slq51 f i)
abbrev slq54 (f : Ship) (i : Int) : LS := (108, .lst 2 ((((f.runP ([(⟨2, 0, (⟨#[]⟩)⟩ : Act), (⟨3, 0, (⟨#[]⟩)⟩ : Act), (⟨5, 0, (⟨#[]⟩)⟩ : Act)])).1).log).map Record.cs)) :: (107, .ref 2 8 0 2) :: (106, VI (((f.runP ([(⟨2, 0, (⟨#[]⟩)⟩ : Act), (⟨3, 0, (⟨#[]⟩)⟩ : Act), (⟨5, 0, (⟨#[]⟩)⟩ : Act)])).1).sent)) :: (105, .ref 2 8 0 3) :: (104, .v (.bool true)) :: (103, .v (.bool true)) :: (slq53 f i)
abbrev slq55 (f : Ship) (i : Int) : LS := (109, VI (List.length (((f.runP ([(⟨2, 0, (⟨#[]⟩)⟩ : Act), (⟨3, 0, (⟨#[]⟩)⟩ : Act), (⟨5, 0, (⟨#[]⟩)⟩ : Act)])).1).log) : Int)) :: (slq54 f i)
abbrev slq56 (i : Int) : LS := [(13, .ref 2 8 0 0), (5, .ref 0 8 0 0), (12, VI i)]
abbrev slq57 (i : Int) : LS := [(5, .ref 0 8 0 0), (12, VI i), (13, .ref 2 8 0 0)]
abbrev slq58 (i : Int) (f : Ship) : LS := [(87, VI i), (113, (slq47 f)), (5, .ref 0 8 0 0), (13, .ref 2 8 0 0)]
abbrev slq59 (f : Ship) (i : Int) : LS := [(117, .lst 2 (f.log.map Record.cs)), (116, .ref 0 8 0 2), (115, VI f.applied), (114, .ref 0 8 0 4), (86, .v (.bool false)), (5, .ref 0 8 0 0), (12, VI i)]
abbrev slq60 (f : Ship) (i : Int) : LS := (124, .lst 2 (f.log.map Record.cs)) :: (123, .ref 0 8 0 2) :: (122, VI f.known) :: (121, .ref 0 8 0 5) :: (120, .v (.bool true)) :: (119, .v (.bool true)) :: (118, VI (List.length f.log : Int)) :: (slq59 f i)
abbrev slq61 (f : Ship) (i : Int) : LS := (132, .lst 1 (f.second.map cZ)) :: (131, .ref 0 8 0 1) :: (130, .lst 1 (f.first.map cZ)) :: (129, .ref 0 8 0 0) :: (128, .v (.bool true)) :: (127, .v (.bool true)) :: (126, .v (.bool true)) :: (125, VI (List.length f.log : Int)) :: (slq60 f i)
theorem shipLives_fn (blocks : Int) (l : List Act) (hl : l.length * 32 ≤ 140737488351232) : Fn Try.prog 8 [VI blocks, .lst 3 (l.map Act.cs)] (.v (.bool true)) := by
  refine fn_walkW F8_ok (of_decide_eq_true (by kernel_rfl)) ?_
  refine EL.sreg ?_
  refine OW.last 1 [0, 1] (x' := ⟨[(0, VI blocks), (1, .lst 3 (l.map Act.cs))], []⟩) (by kernel_rfl) (by kernel_rfl) ?_
  refine EL.sreg ?_
  refine OW.run 2 (x' := ⟨(slq0 l blocks), []⟩) (by kernel_rfl) ?_
  refine OW.fn (ar := [VI blocks, .lst 3 (l.map Act.cs)]) (x' := ⟨(19, .tup [(slq1 blocks l), .v (.bool ((Ship.sailP blocks l).2))]) :: (slq0 l blocks), []⟩) (by kernel_rfl) (by kernel_rfl) F21_call (sailed_fn blocks l (by omega)) (by kernel_rfl) (by kernel_rfl) ?_
  refine OW.last 6 [5, 6] (x' := ⟨[(6, .v (.bool ((Ship.sailP blocks l).2))), (5, .ref 0 8 0 0)], [(slq2 blocks l)]⟩) (by kernel_rfl) (by kernel_rfl) ?_
  refine EL.seq ?_
  refine EL.sreg ?_
  refine OW.fn (ar := []) (x' := ⟨[(22, .v (.bool true)), (6, .v (.bool ((Ship.sailP blocks l).2))), (5, .ref 0 8 0 0)], [(slq2 blocks l)]⟩) (by kernel_rfl) (by kernel_rfl) F15_call (begun_fn) (by kernel_rfl) (by kernel_rfl) ?_
  refine OW.last 1 [5, 6, 23] (x' := ⟨[(23, .v (.bool false)), (6, .v (.bool ((Ship.sailP blocks l).2))), (5, .ref 0 8 0 0)], [(slq2 blocks l)]⟩) (by kernel_rfl) (by kernel_rfl) ?_
  refine EL.condF (by kernel_rfl) ?_
  refine EL.skip ?_
  refine thenL_norm ?_
  refine EL.seq ?_
  refine EL.sreg ?_
  refine OW.last 2 [5, 25] (x' := ⟨[(25, .v (.bool (!((Ship.sailP blocks l).2)))), (5, .ref 0 8 0 0)], [(slq2 blocks l)]⟩) (by kernel_rfl) (by kernel_rfl) ?_
  rcases Bool.eq_false_or_eq_true ((Ship.sailP blocks l).2) with h1 | h1
  rw [h1]
  refine EL.condF (by kernel_rfl) ?_
  refine EL.skip ?_
  refine thenL_norm ?_
  refine EL.seq ?_
  refine EL.block ?_
  refine EL.loopN (fun m x => ∃ (c : Ship), m = c.there.length ∧ (∃ m, c.Sails (List.replicate m ⟨#[]⟩)) ∧ x = ⟨[(5, .ref 0 8 0 0)], [(slq3 c)]⟩) (y := (fun (c : Ship) => (⟨[(5, .ref 0 8 0 0)], [(slq3 c)]⟩ : L3)) (Ship.sailP blocks l).1) [5] [.old 0 false] [] (by kernel_rfl) trivial ⟨(Ship.sailP blocks l).1, rfl, Ship.sail_sails (by assumption), rfl⟩ ?_
  rintro _ _ ⟨c, rfl, hI2, rfl⟩
  obtain ⟨m, hs⟩ := hI2
  have hsm := hs.ok.small
  have hlf : 0 < c.there.length → ((c.doP ⟨4, 0, ⟨#[]⟩⟩).1.there.length : Int) = c.there.length - 1 ∧ (c.doP ⟨4, 0, ⟨#[]⟩⟩).2 = 0 := fun h0 => ⟨(Ship.lose_first hs h0).2.2.1, (Ship.lose_first hs h0).2.2.2⟩
  have hok := hs.ok
  refine EL.seq ?_
  refine EL.sreg ?_
  refine OW.run 2 (x' := ⟨(slq4 c), [(slq3 c)]⟩) (by kernel_rfl) ?_
  refine OW.ope (v := VI (List.length c.there : Int)) (u := []) (acc := []) (x' := ⟨(28, VI (List.length c.there : Int)) :: (slq4 c), [(slq3 c)]⟩) (by kernel_rfl) (opE_len cI c.there (.s 27) 1 (by kernel_rfl) (by kernel_rfl) (.inl rfl)) (by kernel_rfl) ?_
  refine OW.last 1 [5, 29] (x' := ⟨[(29, .v (.bool (decide ((List.length c.there : Int) > 0)))), (5, .ref 0 8 0 0)], [(slq3 c)]⟩) (by kernel_rfl) (by kernel_rfl) ?_
  rcases Bool.eq_false_or_eq_true (decide ((List.length c.there : Int) > 0)) with h3 | h3
  rw [h3]
  have g3 : ((List.length c.there : Int) > 0) := of_decide_eq_true h3
  have n3 : ((List.length c.there) > 0) := by omega
  refine EL.condT (by kernel_rfl) ?_
  refine EL.skip ?_
  refine thenL_norm ?_
  refine EL.block ?_
  refine EL.sdraw ?_
  refine DW.run 1 (x' := ⟨(slq6 c), [(slq3 c)]⟩) (by kernel_rfl) ?_
  refine DW.fn (ar := [VI 4, VI 0, .v (.string (⟨#[]⟩))]) (x' := ⟨(32, slq7) :: (slq6 c), [(slq3 c)]⟩) (by kernel_rfl) (by kernel_rfl) F24_call (act_fn 4 0 (⟨#[]⟩)) (by kernel_rfl) (by kernel_rfl) ?_
  refine DW.fn (ar := [(slq5 c), slq7]) (x' := ⟨(slq9 c), [(slq3 c)]⟩) (by kernel_rfl) (by kernel_rfl) F12_call (do_fn c (⟨4, 0, (⟨#[]⟩)⟩ : Act) (by first | exact hx | exact Ship.new_big _ | exact Ship.run_big _ _ | exact Ship.do_big _ _ | exact Ship.sail_big _ _ | exact Ship.zero_big | exact Ship.Ok.big (by assumption) | omega)) (by kernel_rfl) (by kernel_rfl) ?_
  refine DW.last 6 [5, 7, 8] (x' := ⟨(slq11 c), [(slq3 c), (slq10 c)]⟩) (by kernel_rfl) (by kernel_rfl) ?_
  refine EL.seq ?_
  refine EL.sreg ?_
  refine OW.run 3 (x' := ⟨(38, .v (.bool (((c.doP (⟨4, 0, (⟨#[]⟩)⟩ : Act)).2) != 0))) :: (37, .v (.bool (((c.doP (⟨4, 0, (⟨#[]⟩)⟩ : Act)).2) != 0))) :: (slq12 c), [(slq3 c), (slq10 c)]⟩) (by kernel_rfl) ?_
  rcases Bool.eq_false_or_eq_true ((((c.doP (⟨4, 0, (⟨#[]⟩)⟩ : Act)).2) != 0)) with h4 | h4
  rw [h4]
  have g4 : ¬ (((c.doP (⟨4, 0, (⟨#[]⟩)⟩ : Act)).2) = 0) := by simpa using h4
  refine OW.last 9 [5, 7, 47] (x' := ⟨slq13, [(slq3 c), (slq10 c)]⟩) (by kernel_rfl) (by kernel_rfl) ?_
  refine EL.condT (by kernel_rfl) ?_
  refine EL.sreg ?_
  refine OW.last 1 [4] (x' := ⟨[(4, .v (.bool false))], [(slq3 c), (slq10 c)]⟩) (by kernel_rfl) (by kernel_rfl) ?_
  refine EL.ret ?_
  refine thenL_ret ?_
  refine inBlk_ret ?_
  refine thenL_ret ?_
  refine inBlk_ret ?_
  refine thenL_ret ?_
  refine ⟨.inr rfl, .v (.bool false), by kernel_rfl, Ale.of_eq ?_⟩
  focus (first | rfl | (exfalso; omega) | (exfalso; have h7 : (d.doP ⟨7, 0, ⟨#[]⟩⟩).2 = 0 := (by rw [(Ship.again_does hs2).1]); contradiction) | (have hfs := hc.sails.end_ (by omega); rw [hfs]; simp; done) | (exfalso; omega) | trace_state)
  rw [h4]
  have g4 : (((c.doP (⟨4, 0, (⟨#[]⟩)⟩ : Act)).2) = 0) := by simpa using h4
  refine OW.run 2 (x' := ⟨(slq14 c), [(slq3 c), (slq10 c)]⟩) (by kernel_rfl) ?_
  refine OW.ope (v := VI (List.length (((c.doP (⟨4, 0, (⟨#[]⟩)⟩ : Act)).1).there) : Int)) (u := []) (acc := []) (x' := ⟨(slq15 c), [(slq3 c), (slq10 c)]⟩) (by kernel_rfl) (opE_len cI (((c.doP (⟨4, 0, (⟨#[]⟩)⟩ : Act)).1).there) (.s 40) 1 (by kernel_rfl) (by kernel_rfl) (.inl rfl)) (by kernel_rfl) ?_
  refine OW.run 2 (x' := ⟨(slq16 c), [(slq3 c), (slq10 c)]⟩) (by kernel_rfl) ?_
  refine OW.ope (v := VI (List.length c.there : Int)) (u := []) (acc := []) (x' := ⟨(44, VI (List.length c.there : Int)) :: (slq16 c), [(slq3 c), (slq10 c)]⟩) (by kernel_rfl) (opE_len cI c.there (.s 43) 1 (by kernel_rfl) (by kernel_rfl) (.inl rfl)) (by kernel_rfl) ?_
  refine OW.run 3 (x' := ⟨(47, .v (.bool ((List.length (((c.doP (⟨4, 0, (⟨#[]⟩)⟩ : Act)).1).there) : Int) != IntKind.i64.wrap ((List.length c.there : Int) - 1)))) :: (46, .v (.bool ((List.length (((c.doP (⟨4, 0, (⟨#[]⟩)⟩ : Act)).1).there) : Int) != IntKind.i64.wrap ((List.length c.there : Int) - 1)))) :: (45, VI (IntKind.i64.wrap ((List.length c.there : Int) - 1))) :: (44, VI (List.length c.there : Int)) :: (slq16 c), [(slq3 c), (slq10 c)]⟩) (by kernel_rfl) ?_
  have e5 : IntKind.i64.wrap ((List.length c.there : Int) - 1) = (List.length c.there : Int) - 1 := wr64 (by omega)
  rw [e5]
  refine OW.last 0 [5, 7, 47] (x' := ⟨[(47, .v (.bool ((List.length (((c.doP (⟨4, 0, (⟨#[]⟩)⟩ : Act)).1).there) : Int) != ((List.length c.there : Int) - 1)))), (7, .ref 1 8 0 0), (5, .ref 0 8 0 0)], [(slq3 c), (slq10 c)]⟩) (by kernel_rfl) (by kernel_rfl) ?_
  rcases Bool.eq_false_or_eq_true (((List.length (((c.doP (⟨4, 0, (⟨#[]⟩)⟩ : Act)).1).there) : Int) != ((List.length c.there : Int) - 1))) with h6 | h6
  rw [h6]
  have g6 : ¬ ((List.length (((c.doP (⟨4, 0, (⟨#[]⟩)⟩ : Act)).1).there) : Int) = ((List.length c.there : Int) - 1)) := by simpa using h6
  refine EL.condT (by kernel_rfl) ?_
  refine EL.sreg ?_
  refine OW.last 1 [4] (x' := ⟨[(4, .v (.bool false))], [(slq3 c), (slq10 c)]⟩) (by kernel_rfl) (by kernel_rfl) ?_
  refine EL.ret ?_
  refine thenL_ret ?_
  refine inBlk_ret ?_
  refine thenL_ret ?_
  refine inBlk_ret ?_
  refine thenL_ret ?_
  refine ⟨.inr rfl, .v (.bool false), by kernel_rfl, Ale.of_eq ?_⟩
  focus (first | rfl | (exfalso; omega) | (exfalso; have h7 : (d.doP ⟨7, 0, ⟨#[]⟩⟩).2 = 0 := (by rw [(Ship.again_does hs2).1]); contradiction) | (have hfs := hc.sails.end_ (by omega); rw [hfs]; simp; done) | (exfalso; omega) | trace_state)
  rw [h6]
  have g6 : ((List.length (((c.doP (⟨4, 0, (⟨#[]⟩)⟩ : Act)).1).there) : Int) = ((List.length c.there : Int) - 1)) := by simpa using h6
  refine EL.condF (by kernel_rfl) ?_
  refine EL.skip ?_
  refine thenL_norm ?_
  refine EL.reg0 ?_
  refine OW.end 2 (x' := ⟨(slq17 c), [(slq10 c), (slq10 c)]⟩) (by kernel_rfl) (by kernel_rfl) ?_
  refine inBlk_norm ?_
  refine thenL_norm ?_
  refine round_end (live := [5]) (src := [.old 0 false]) (es := []) (y := (fun (c : Ship) => (⟨[(5, .ref 0 8 0 0)], [(slq3 c)]⟩ : L3)) ((c.doP (⟨4, 0, (⟨#[]⟩)⟩ : Act)).1)) ?_ trivial ?_ ⟨((c.doP (⟨4, 0, (⟨#[]⟩)⟩ : Act)).1), rfl, ?_, rfl⟩
  kernel_rfl
  omega
  focus (exact ⟨m, (Ship.lose_first hs (by omega)).2.1⟩)
  rw [h3]
  have g3 : ¬ ((List.length c.there : Int) > 0) := of_decide_eq_false h3
  have n3 : ¬ ((List.length c.there) > 0) := by omega
  refine EL.condF (by kernel_rfl) ?_
  refine EL.exit ?_
  refine thenL_exit ?_
  refine thenL_exit ?_
  refine inBlk_hit ?_
  refine thenL_norm ?_
  refine EL.seq ?_
  refine EL.block ?_
  refine EL.loopN (fun m x => ∃ (d : Ship), m = d.back.length ∧ ((∃ m, d.Sails (List.replicate m ⟨#[]⟩)) ∧ d.there = []) ∧ x = ⟨[(5, .ref 0 8 0 0)], [(slq18 d)]⟩) (y := (fun (d : Ship) => (⟨[(5, .ref 0 8 0 0)], [(slq18 d)]⟩ : L3)) c) [5] [.old 0 false] [] (by kernel_rfl) trivial ⟨c, rfl, ⟨⟨m, hs⟩, List.eq_nil_of_length_eq_zero (by omega)⟩, rfl⟩ ?_
  rintro _ _ ⟨d, rfl, hI7, rfl⟩
  obtain ⟨⟨m2, hs2⟩, ht2⟩ := hI7
  have hsm2 := hs2.ok.small
  have hlf2 : 0 < d.back.length → ((d.doP ⟨6, 0, ⟨#[]⟩⟩).1.back.length : Int) = d.back.length - 1 ∧ (d.doP ⟨6, 0, ⟨#[]⟩⟩).2 = 0 := fun h0 => ⟨(Ship.drop_first hs2 h0).2.2.1, (Ship.drop_first hs2 h0).2.2.2⟩
  have hok2 := hs2.ok
  refine EL.seq ?_
  refine EL.sreg ?_
  refine OW.run 2 (x' := ⟨(slq19 d), [(slq18 d)]⟩) (by kernel_rfl) ?_
  refine OW.ope (v := VI (List.length d.back : Int)) (u := []) (acc := []) (x' := ⟨(51, VI (List.length d.back : Int)) :: (slq19 d), [(slq18 d)]⟩) (by kernel_rfl) (opE_len cI d.back (.s 50) 1 (by kernel_rfl) (by kernel_rfl) (.inl rfl)) (by kernel_rfl) ?_
  refine OW.last 1 [5, 52] (x' := ⟨[(52, .v (.bool (decide ((List.length d.back : Int) > 0)))), (5, .ref 0 8 0 0)], [(slq18 d)]⟩) (by kernel_rfl) (by kernel_rfl) ?_
  rcases Bool.eq_false_or_eq_true (decide ((List.length d.back : Int) > 0)) with h8 | h8
  rw [h8]
  have g8 : ((List.length d.back : Int) > 0) := of_decide_eq_true h8
  have n8 : ((List.length d.back) > 0) := by omega
  refine EL.condT (by kernel_rfl) ?_
  refine EL.skip ?_
  refine thenL_norm ?_
  refine EL.block ?_
  refine EL.sdraw ?_
  refine DW.run 1 (x' := ⟨(slq21 d), [(slq18 d)]⟩) (by kernel_rfl) ?_
  refine DW.fn (ar := [VI 6, VI 0, .v (.string (⟨#[]⟩))]) (x' := ⟨(55, slq22) :: (slq21 d), [(slq18 d)]⟩) (by kernel_rfl) (by kernel_rfl) F24_call (act_fn 6 0 (⟨#[]⟩)) (by kernel_rfl) (by kernel_rfl) ?_
  refine DW.fn (ar := [(slq20 d), slq22]) (x' := ⟨(slq24 d), [(slq18 d)]⟩) (by kernel_rfl) (by kernel_rfl) F12_call (do_fn d (⟨6, 0, (⟨#[]⟩)⟩ : Act) (by first | exact hx | exact Ship.new_big _ | exact Ship.run_big _ _ | exact Ship.do_big _ _ | exact Ship.sail_big _ _ | exact Ship.zero_big | exact Ship.Ok.big (by assumption) | omega)) (by kernel_rfl) (by kernel_rfl) ?_
  refine DW.last 6 [5, 9, 10] (x' := ⟨(slq26 d), [(slq18 d), (slq25 d)]⟩) (by kernel_rfl) (by kernel_rfl) ?_
  refine EL.seq ?_
  refine EL.sreg ?_
  refine OW.run 3 (x' := ⟨(61, .v (.bool (((d.doP (⟨6, 0, (⟨#[]⟩)⟩ : Act)).2) != 0))) :: (60, .v (.bool (((d.doP (⟨6, 0, (⟨#[]⟩)⟩ : Act)).2) != 0))) :: (slq27 d), [(slq18 d), (slq25 d)]⟩) (by kernel_rfl) ?_
  rcases Bool.eq_false_or_eq_true ((((d.doP (⟨6, 0, (⟨#[]⟩)⟩ : Act)).2) != 0)) with h9 | h9
  rw [h9]
  have g9 : ¬ (((d.doP (⟨6, 0, (⟨#[]⟩)⟩ : Act)).2) = 0) := by simpa using h9
  refine OW.last 9 [5, 9, 70] (x' := ⟨slq28, [(slq18 d), (slq25 d)]⟩) (by kernel_rfl) (by kernel_rfl) ?_
  refine EL.condT (by kernel_rfl) ?_
  refine EL.sreg ?_
  refine OW.last 1 [4] (x' := ⟨[(4, .v (.bool false))], [(slq18 d), (slq25 d)]⟩) (by kernel_rfl) (by kernel_rfl) ?_
  refine EL.ret ?_
  refine thenL_ret ?_
  refine inBlk_ret ?_
  refine thenL_ret ?_
  refine inBlk_ret ?_
  refine thenL_ret ?_
  refine ⟨.inr rfl, .v (.bool false), by kernel_rfl, Ale.of_eq ?_⟩
  focus (first | rfl | (exfalso; omega) | (exfalso; have h7 : (d.doP ⟨7, 0, ⟨#[]⟩⟩).2 = 0 := (by rw [(Ship.again_does hs2).1]); contradiction) | (have hfs := hc.sails.end_ (by omega); rw [hfs]; simp; done) | (exfalso; omega) | trace_state)
  rw [h9]
  have g9 : (((d.doP (⟨6, 0, (⟨#[]⟩)⟩ : Act)).2) = 0) := by simpa using h9
  refine OW.run 2 (x' := ⟨(slq29 d), [(slq18 d), (slq25 d)]⟩) (by kernel_rfl) ?_
  refine OW.ope (v := VI (List.length (((d.doP (⟨6, 0, (⟨#[]⟩)⟩ : Act)).1).back) : Int)) (u := []) (acc := []) (x' := ⟨(slq30 d), [(slq18 d), (slq25 d)]⟩) (by kernel_rfl) (opE_len cI (((d.doP (⟨6, 0, (⟨#[]⟩)⟩ : Act)).1).back) (.s 63) 1 (by kernel_rfl) (by kernel_rfl) (.inl rfl)) (by kernel_rfl) ?_
  refine OW.run 2 (x' := ⟨(slq31 d), [(slq18 d), (slq25 d)]⟩) (by kernel_rfl) ?_
  refine OW.ope (v := VI (List.length d.back : Int)) (u := []) (acc := []) (x' := ⟨(67, VI (List.length d.back : Int)) :: (slq31 d), [(slq18 d), (slq25 d)]⟩) (by kernel_rfl) (opE_len cI d.back (.s 66) 1 (by kernel_rfl) (by kernel_rfl) (.inl rfl)) (by kernel_rfl) ?_
  refine OW.run 3 (x' := ⟨(70, .v (.bool ((List.length (((d.doP (⟨6, 0, (⟨#[]⟩)⟩ : Act)).1).back) : Int) != IntKind.i64.wrap ((List.length d.back : Int) - 1)))) :: (69, .v (.bool ((List.length (((d.doP (⟨6, 0, (⟨#[]⟩)⟩ : Act)).1).back) : Int) != IntKind.i64.wrap ((List.length d.back : Int) - 1)))) :: (68, VI (IntKind.i64.wrap ((List.length d.back : Int) - 1))) :: (67, VI (List.length d.back : Int)) :: (slq31 d), [(slq18 d), (slq25 d)]⟩) (by kernel_rfl) ?_
  have e10 : IntKind.i64.wrap ((List.length d.back : Int) - 1) = (List.length d.back : Int) - 1 := wr64 (by omega)
  rw [e10]
  refine OW.last 0 [5, 9, 70] (x' := ⟨[(70, .v (.bool ((List.length (((d.doP (⟨6, 0, (⟨#[]⟩)⟩ : Act)).1).back) : Int) != ((List.length d.back : Int) - 1)))), (9, .ref 1 8 0 0), (5, .ref 0 8 0 0)], [(slq18 d), (slq25 d)]⟩) (by kernel_rfl) (by kernel_rfl) ?_
  rcases Bool.eq_false_or_eq_true (((List.length (((d.doP (⟨6, 0, (⟨#[]⟩)⟩ : Act)).1).back) : Int) != ((List.length d.back : Int) - 1))) with h11 | h11
  rw [h11]
  have g11 : ¬ ((List.length (((d.doP (⟨6, 0, (⟨#[]⟩)⟩ : Act)).1).back) : Int) = ((List.length d.back : Int) - 1)) := by simpa using h11
  refine EL.condT (by kernel_rfl) ?_
  refine EL.sreg ?_
  refine OW.last 1 [4] (x' := ⟨[(4, .v (.bool false))], [(slq18 d), (slq25 d)]⟩) (by kernel_rfl) (by kernel_rfl) ?_
  refine EL.ret ?_
  refine thenL_ret ?_
  refine inBlk_ret ?_
  refine thenL_ret ?_
  refine inBlk_ret ?_
  refine thenL_ret ?_
  refine ⟨.inr rfl, .v (.bool false), by kernel_rfl, Ale.of_eq ?_⟩
  focus (first | rfl | (exfalso; omega) | (exfalso; have h7 : (d.doP ⟨7, 0, ⟨#[]⟩⟩).2 = 0 := (by rw [(Ship.again_does hs2).1]); contradiction) | (have hfs := hc.sails.end_ (by omega); rw [hfs]; simp; done) | (exfalso; omega) | trace_state)
  rw [h11]
  have g11 : ((List.length (((d.doP (⟨6, 0, (⟨#[]⟩)⟩ : Act)).1).back) : Int) = ((List.length d.back : Int) - 1)) := by simpa using h11
  refine EL.condF (by kernel_rfl) ?_
  refine EL.skip ?_
  refine thenL_norm ?_
  refine EL.reg0 ?_
  refine OW.end 2 (x' := ⟨(slq32 d), [(slq25 d), (slq25 d)]⟩) (by kernel_rfl) (by kernel_rfl) ?_
  refine inBlk_norm ?_
  refine thenL_norm ?_
  refine round_end (live := [5]) (src := [.old 0 false]) (es := []) (y := (fun (d : Ship) => (⟨[(5, .ref 0 8 0 0)], [(slq18 d)]⟩ : L3)) ((d.doP (⟨6, 0, (⟨#[]⟩)⟩ : Act)).1)) ?_ trivial ?_ ⟨((d.doP (⟨6, 0, (⟨#[]⟩)⟩ : Act)).1), rfl, ?_, rfl⟩
  kernel_rfl
  omega
  focus ((have hd := Ship.drop_first hs2 (by omega); refine ⟨⟨m2, hd.2.1⟩, ?_⟩; rw [hd.1]; exact ht2))
  rw [h8]
  have g8 : ¬ ((List.length d.back : Int) > 0) := of_decide_eq_false h8
  have n8 : ¬ ((List.length d.back) > 0) := by omega
  refine EL.condF (by kernel_rfl) ?_
  refine EL.exit ?_
  refine thenL_exit ?_
  refine thenL_exit ?_
  refine inBlk_hit ?_
  refine thenL_norm ?_
  refine EL.sdraw ?_
  refine DW.run 1 (x' := ⟨(slq33 d), [(slq18 d)]⟩) (by kernel_rfl) ?_
  refine DW.fn (ar := [VI 7, VI 0, .v (.string (⟨#[]⟩))]) (x' := ⟨(74, slq34) :: (slq33 d), [(slq18 d)]⟩) (by kernel_rfl) (by kernel_rfl) F24_call (act_fn 7 0 (⟨#[]⟩)) (by kernel_rfl) (by kernel_rfl) ?_
  refine DW.fn (ar := [(slq20 d), slq34]) (x' := ⟨(slq36 d), [(slq18 d)]⟩) (by kernel_rfl) (by kernel_rfl) F12_call (do_fn d (⟨7, 0, (⟨#[]⟩)⟩ : Act) (by first | exact hx | exact Ship.new_big _ | exact Ship.run_big _ _ | exact Ship.do_big _ _ | exact Ship.sail_big _ _ | exact Ship.zero_big | exact Ship.Ok.big (by assumption) | omega)) (by kernel_rfl) (by kernel_rfl) ?_
  refine DW.last 5 [5, 11] (x' := ⟨[(11, VI ((d.doP (⟨7, 0, (⟨#[]⟩)⟩ : Act)).2)), (5, .ref 0 8 0 0)], [(slq37 d)]⟩) (by kernel_rfl) (by kernel_rfl) ?_
  refine EL.seq ?_
  refine EL.sreg ?_
  refine OW.last 2 [5, 79] (x' := ⟨[(79, .v (.bool (((d.doP (⟨7, 0, (⟨#[]⟩)⟩ : Act)).2) != 0))), (5, .ref 0 8 0 0)], [(slq37 d)]⟩) (by kernel_rfl) (by kernel_rfl) ?_
  rcases Bool.eq_false_or_eq_true ((((d.doP (⟨7, 0, (⟨#[]⟩)⟩ : Act)).2) != 0)) with h12 | h12
  rw [h12]
  have g12 : ¬ (((d.doP (⟨7, 0, (⟨#[]⟩)⟩ : Act)).2) = 0) := by simpa using h12
  refine EL.condT (by kernel_rfl) ?_
  refine EL.sreg ?_
  refine OW.last 1 [4] (x' := ⟨[(4, .v (.bool false))], [(slq37 d)]⟩) (by kernel_rfl) (by kernel_rfl) ?_
  refine EL.ret ?_
  refine thenL_ret ?_
  refine ⟨.inr rfl, .v (.bool false), by kernel_rfl, Ale.of_eq ?_⟩
  focus (first | rfl | (exfalso; omega) | (exfalso; have h7 : (d.doP ⟨7, 0, ⟨#[]⟩⟩).2 = 0 := (by rw [(Ship.again_does hs2).1]); contradiction) | (have hfs := hc.sails.end_ (by omega); rw [hfs]; simp; done) | (exfalso; omega) | trace_state)
  rw [h12]
  have g12 : (((d.doP (⟨7, 0, (⟨#[]⟩)⟩ : Act)).2) = 0) := by simpa using h12
  refine EL.condF (by kernel_rfl) ?_
  refine EL.skip ?_
  refine thenL_norm ?_
  refine EL.seq ?_
  refine EL.sreg ?_
  refine OW.last 3 [5, 12] (x' := ⟨[(12, VI (((d.doP (⟨7, 0, (⟨#[]⟩)⟩ : Act)).1).known)), (5, .ref 0 8 0 0)], [(slq37 d)]⟩) (by kernel_rfl) (by kernel_rfl) ?_
  refine EL.block ?_
  refine EL.loopN (fun m x => ∃ (i : Int) (f : Ship), m = (61 - i).toNat ∧ ((∃ m, f.Calm (List.replicate m ⟨#[]⟩)) ∧ 0 ≤ i ∧ i ≤ f.known) ∧ x = ⟨[(5, .ref 0 8 0 0), (12, VI i)], [(slq38 f)]⟩) (y := (fun (i : Int) (f : Ship) => (⟨[(5, .ref 0 8 0 0), (12, VI i)], [(slq38 f)]⟩ : L3)) ((d.doP (⟨7, 0, ⟨#[]⟩⟩ : Act)).1.known) ((d.doP (⟨7, 0, ⟨#[]⟩⟩ : Act)).1)) [5, 12] [.old 0 false] [] (by kernel_rfl) trivial ⟨((d.doP (⟨7, 0, ⟨#[]⟩⟩ : Act)).1.known), ((d.doP (⟨7, 0, ⟨#[]⟩⟩ : Act)).1), rfl, by have ha := Ship.again_does hs2; have hk2 := hok2.k; have hb2 : d.back = [] := List.eq_nil_of_length_eq_zero (by omega); rw [ha.1]; exact ⟨⟨m2, ⟨ha.2, ht2, hb2, rfl⟩⟩, hk2.1, Int.le_refl _⟩, rfl⟩ ?_
  rintro _ _ ⟨i, f, rfl, hI13, rfl⟩
  obtain ⟨⟨m3, hc⟩, hi0, hi1⟩ := hI13
  have hok3 := hc.sails.ok
  have hsm3 := hok3.small
  have hk3 := hok3.k
  have hr2 := (Ship.round_does hc).2.1
  have hr := Ship.round_says hc
  simp only [Ship.three] at hr hr2
  obtain ⟨hr5, hr6, hr7, hr8⟩ := hr
  refine EL.seq ?_
  refine EL.sreg ?_
  refine OW.run 3 (x' := ⟨(slq39 f i), [(slq38 f)]⟩) (by kernel_rfl) ?_
  refine OW.ope (v := VI (List.length f.log : Int)) (u := []) (acc := []) (x' := ⟨(85, VI (List.length f.log : Int)) :: (slq39 f i), [(slq38 f)]⟩) (by kernel_rfl) (opE_len Record.cs f.log (.s 84) 2 (by kernel_rfl) (by kernel_rfl) (.inl rfl)) (by kernel_rfl) ?_
  refine OW.last 1 [5, 12, 86] (x' := ⟨[(86, .v (.bool (decide (i < (List.length f.log : Int))))), (5, .ref 0 8 0 0), (12, VI i)], [(slq38 f)]⟩) (by kernel_rfl) (by kernel_rfl) ?_
  rcases Bool.eq_false_or_eq_true (decide (i < (List.length f.log : Int))) with h14 | h14
  rw [h14]
  have g14 : (i < (List.length f.log : Int)) := of_decide_eq_true h14
  refine EL.condT (by kernel_rfl) ?_
  refine EL.skip ?_
  refine thenL_norm ?_
  refine EL.seq ?_
  refine EL.block ?_
  refine EL.sdraw ?_
  refine DW.run 1 (x' := ⟨(slq41 f i), [(slq38 f)]⟩) (by kernel_rfl) ?_
  refine DW.fn (ar := [VI 2, VI 0, .v (.string (⟨#[]⟩))]) (x' := ⟨(91, slq42) :: (slq41 f i), [(slq38 f)]⟩) (by kernel_rfl) (by kernel_rfl) F24_call (act_fn 2 0 (⟨#[]⟩)) (by kernel_rfl) (by kernel_rfl) ?_
  refine DW.fn (ar := [VI 3, VI 0, .v (.string (⟨#[]⟩))]) (x' := ⟨(92, slq43) :: (91, slq42) :: (slq41 f i), [(slq38 f)]⟩) (by kernel_rfl) (by kernel_rfl) F24_call (act_fn 3 0 (⟨#[]⟩)) (by kernel_rfl) (by kernel_rfl) ?_
  refine DW.fn (ar := [VI 5, VI 0, .v (.string (⟨#[]⟩))]) (x' := ⟨(93, slq44) :: (92, slq43) :: (91, slq42) :: (slq41 f i), [(slq38 f)]⟩) (by kernel_rfl) (by kernel_rfl) F24_call (act_fn 5 0 (⟨#[]⟩)) (by kernel_rfl) (by kernel_rfl) ?_
  refine DW.run 1 (x' := ⟨(slq46 f i), [(slq38 f), slq45]⟩) (by kernel_rfl) ?_
  refine DW.fn (ar := [(slq40 f), .own 1 3 0 3]) (x' := ⟨(slq48 f i), [(slq38 f), none]⟩) (by kernel_rfl) (by kernel_rfl) F19_call (run_fn f ([(⟨2, 0, (⟨#[]⟩)⟩ : Act), (⟨3, 0, (⟨#[]⟩)⟩ : Act), (⟨5, 0, (⟨#[]⟩)⟩ : Act)]) (by first | exact hx | exact Ship.new_big _ | exact Ship.run_big _ _ | exact Ship.do_big _ _ | exact Ship.sail_big _ _ | exact Ship.zero_big | exact Ship.Ok.big (by assumption) | omega) (by first | omega | decide | (simp; omega))) (by kernel_rfl) (by kernel_rfl) ?_
  refine DW.last 8 [5, 12, 13, 14, 15] (x' := ⟨(slq50 f i), [(slq38 f), none, (slq49 f)]⟩) (by kernel_rfl) (by kernel_rfl) ?_
  refine EL.seqG [5, 12, 13] (fun y => (y = ⟨(slq57 i), [(slq38 f), none, (slq49 f)]⟩ ∧ (((f.runP ([(⟨2, 0, (⟨#[]⟩)⟩ : Act), (⟨3, 0, (⟨#[]⟩)⟩ : Act), (⟨5, 0, (⟨#[]⟩)⟩ : Act)])).2.2) != 0) = false ∧ ((((((f.runP ([(⟨2, 0, (⟨#[]⟩)⟩ : Act), (⟨3, 0, (⟨#[]⟩)⟩ : Act), (⟨5, 0, (⟨#[]⟩)⟩ : Act)])).1).sent) = (List.length (((f.runP ([(⟨2, 0, (⟨#[]⟩)⟩ : Act), (⟨3, 0, (⟨#[]⟩)⟩ : Act), (⟨5, 0, (⟨#[]⟩)⟩ : Act)])).1).log) : Int)) ∧ ¬ (((f.runP ([(⟨2, 0, (⟨#[]⟩)⟩ : Act), (⟨3, 0, (⟨#[]⟩)⟩ : Act), (⟨5, 0, (⟨#[]⟩)⟩ : Act)])).2.1) = 3)) ∨ ((((f.runP ([(⟨2, 0, (⟨#[]⟩)⟩ : Act), (⟨3, 0, (⟨#[]⟩)⟩ : Act), (⟨5, 0, (⟨#[]⟩)⟩ : Act)])).2.1) = 3))))) ?_ ?_
  intro IHJ15 HJ15
  refine EL.sreg ?_
  refine OW.run 3 (x' := ⟨(101, .v (.bool (((f.runP ([(⟨2, 0, (⟨#[]⟩)⟩ : Act), (⟨3, 0, (⟨#[]⟩)⟩ : Act), (⟨5, 0, (⟨#[]⟩)⟩ : Act)])).2.2) != 0))) :: (100, .v (.bool (((f.runP ([(⟨2, 0, (⟨#[]⟩)⟩ : Act), (⟨3, 0, (⟨#[]⟩)⟩ : Act), (⟨5, 0, (⟨#[]⟩)⟩ : Act)])).2.2) != 0))) :: (slq51 f i), [(slq38 f), none, (slq49 f)]⟩) (by kernel_rfl) ?_
  rcases Bool.eq_false_or_eq_true ((((f.runP ([(⟨2, 0, (⟨#[]⟩)⟩ : Act), (⟨3, 0, (⟨#[]⟩)⟩ : Act), (⟨5, 0, (⟨#[]⟩)⟩ : Act)])).2.2) != 0)) with h16 | h16
  rw [h16]
  have g16 : ¬ (((f.runP ([(⟨2, 0, (⟨#[]⟩)⟩ : Act), (⟨3, 0, (⟨#[]⟩)⟩ : Act), (⟨5, 0, (⟨#[]⟩)⟩ : Act)])).2.2) = 0) := by simpa using h16
  refine OW.last 11 [5, 12, 13, 112] (x' := ⟨(slq52 i), [(slq38 f), none, (slq49 f)]⟩) (by kernel_rfl) (by kernel_rfl) ?_
  refine EL.condT (by kernel_rfl) ?_
  refine EL.sreg ?_
  refine OW.last 1 [4] (x' := ⟨[(4, .v (.bool false))], [(slq38 f), none, (slq49 f)]⟩) (by kernel_rfl) (by kernel_rfl) ?_
  refine EL.ret ?_
  refine thenL_ret ?_
  refine inBlk_ret ?_
  refine thenL_ret ?_
  refine thenL_ret ?_
  refine inBlk_ret ?_
  refine thenL_ret ?_
  refine ⟨.inr rfl, .v (.bool false), by kernel_rfl, Ale.of_eq ?_⟩
  focus (first | rfl | (exfalso; omega) | (exfalso; have h7 : (d.doP ⟨7, 0, ⟨#[]⟩⟩).2 = 0 := (by rw [(Ship.again_does hs2).1]); contradiction) | (have hfs := hc.sails.end_ (by omega); rw [hfs]; simp; done) | (exfalso; omega) | trace_state)
  rw [h16]
  have g16 : (((f.runP ([(⟨2, 0, (⟨#[]⟩)⟩ : Act), (⟨3, 0, (⟨#[]⟩)⟩ : Act), (⟨5, 0, (⟨#[]⟩)⟩ : Act)])).2.2) = 0) := by simpa using h16
  refine OW.run 3 (x' := ⟨(104, .v (.bool (((f.runP ([(⟨2, 0, (⟨#[]⟩)⟩ : Act), (⟨3, 0, (⟨#[]⟩)⟩ : Act), (⟨5, 0, (⟨#[]⟩)⟩ : Act)])).2.1) != 3))) :: (103, .v (.bool (((f.runP ([(⟨2, 0, (⟨#[]⟩)⟩ : Act), (⟨3, 0, (⟨#[]⟩)⟩ : Act), (⟨5, 0, (⟨#[]⟩)⟩ : Act)])).2.1) != 3))) :: (slq53 f i), [(slq38 f), none, (slq49 f)]⟩) (by kernel_rfl) ?_
  rcases Bool.eq_false_or_eq_true ((((f.runP ([(⟨2, 0, (⟨#[]⟩)⟩ : Act), (⟨3, 0, (⟨#[]⟩)⟩ : Act), (⟨5, 0, (⟨#[]⟩)⟩ : Act)])).2.1) != 3)) with h17 | h17
  rw [h17]
  have g17 : ¬ (((f.runP ([(⟨2, 0, (⟨#[]⟩)⟩ : Act), (⟨3, 0, (⟨#[]⟩)⟩ : Act), (⟨5, 0, (⟨#[]⟩)⟩ : Act)])).2.1) = 3) := by simpa using h17
  refine OW.run 4 (x' := ⟨(slq54 f i), [(slq38 f), none, (slq49 f)]⟩) (by kernel_rfl) ?_
  refine OW.ope (v := VI (List.length (((f.runP ([(⟨2, 0, (⟨#[]⟩)⟩ : Act), (⟨3, 0, (⟨#[]⟩)⟩ : Act), (⟨5, 0, (⟨#[]⟩)⟩ : Act)])).1).log) : Int)) (u := []) (acc := []) (x' := ⟨(slq55 f i), [(slq38 f), none, (slq49 f)]⟩) (by kernel_rfl) (opE_len Record.cs (((f.runP ([(⟨2, 0, (⟨#[]⟩)⟩ : Act), (⟨3, 0, (⟨#[]⟩)⟩ : Act), (⟨5, 0, (⟨#[]⟩)⟩ : Act)])).1).log) (.s 108) 2 (by kernel_rfl) (by kernel_rfl) (.inl rfl)) (by kernel_rfl) ?_
  refine OW.last 3 [5, 12, 13, 112] (x' := ⟨(112, .v (.bool ((((f.runP ([(⟨2, 0, (⟨#[]⟩)⟩ : Act), (⟨3, 0, (⟨#[]⟩)⟩ : Act), (⟨5, 0, (⟨#[]⟩)⟩ : Act)])).1).sent) != (List.length (((f.runP ([(⟨2, 0, (⟨#[]⟩)⟩ : Act), (⟨3, 0, (⟨#[]⟩)⟩ : Act), (⟨5, 0, (⟨#[]⟩)⟩ : Act)])).1).log) : Int)))) :: (slq56 i), [(slq38 f), none, (slq49 f)]⟩) (by kernel_rfl) (by kernel_rfl) ?_
  rcases Bool.eq_false_or_eq_true (((((f.runP ([(⟨2, 0, (⟨#[]⟩)⟩ : Act), (⟨3, 0, (⟨#[]⟩)⟩ : Act), (⟨5, 0, (⟨#[]⟩)⟩ : Act)])).1).sent) != (List.length (((f.runP ([(⟨2, 0, (⟨#[]⟩)⟩ : Act), (⟨3, 0, (⟨#[]⟩)⟩ : Act), (⟨5, 0, (⟨#[]⟩)⟩ : Act)])).1).log) : Int))) with h18 | h18
  rw [h18]
  have g18 : ¬ ((((f.runP ([(⟨2, 0, (⟨#[]⟩)⟩ : Act), (⟨3, 0, (⟨#[]⟩)⟩ : Act), (⟨5, 0, (⟨#[]⟩)⟩ : Act)])).1).sent) = (List.length (((f.runP ([(⟨2, 0, (⟨#[]⟩)⟩ : Act), (⟨3, 0, (⟨#[]⟩)⟩ : Act), (⟨5, 0, (⟨#[]⟩)⟩ : Act)])).1).log) : Int)) := by simpa using h18
  refine EL.condT (by kernel_rfl) ?_
  refine EL.sreg ?_
  refine OW.last 1 [4] (x' := ⟨[(4, .v (.bool false))], [(slq38 f), none, (slq49 f)]⟩) (by kernel_rfl) (by kernel_rfl) ?_
  refine EL.ret ?_
  refine thenL_ret ?_
  refine inBlk_ret ?_
  refine thenL_ret ?_
  refine thenL_ret ?_
  refine inBlk_ret ?_
  refine thenL_ret ?_
  refine ⟨.inr rfl, .v (.bool false), by kernel_rfl, Ale.of_eq ?_⟩
  focus (first | rfl | (exfalso; omega) | (exfalso; have h7 : (d.doP ⟨7, 0, ⟨#[]⟩⟩).2 = 0 := (by rw [(Ship.again_does hs2).1]); contradiction) | (have hfs := hc.sails.end_ (by omega); rw [hfs]; simp; done) | (exfalso; omega) | trace_state)
  rw [h18]
  have g18 : ((((f.runP ([(⟨2, 0, (⟨#[]⟩)⟩ : Act), (⟨3, 0, (⟨#[]⟩)⟩ : Act), (⟨5, 0, (⟨#[]⟩)⟩ : Act)])).1).sent) = (List.length (((f.runP ([(⟨2, 0, (⟨#[]⟩)⟩ : Act), (⟨3, 0, (⟨#[]⟩)⟩ : Act), (⟨5, 0, (⟨#[]⟩)⟩ : Act)])).1).log) : Int)) := by simpa using h18
  refine EL.condF (by kernel_rfl) ?_
  refine EL.skip ?_
  exact thenL_norm (HJ15.get ⟨by kernel_rfl, h16, (Or.inl (by refine ⟨(by first | exact g18 | exact h18 | simp_all | omega), (by first | exact g17 | exact h17 | simp_all | omega)⟩))⟩)
  rw [h17]
  have g17 : (((f.runP ([(⟨2, 0, (⟨#[]⟩)⟩ : Act), (⟨3, 0, (⟨#[]⟩)⟩ : Act), (⟨5, 0, (⟨#[]⟩)⟩ : Act)])).2.1) = 3) := by simpa using h17
  refine OW.last 8 [5, 12, 13, 112] (x' := ⟨(112, .v (.bool false)) :: (slq56 i), [(slq38 f), none, (slq49 f)]⟩) (by kernel_rfl) (by kernel_rfl) ?_
  refine EL.condF (by kernel_rfl) ?_
  refine EL.skip ?_
  exact thenL_norm (HJ15.get ⟨by kernel_rfl, h16, (Or.inr (by first | exact g17 | exact h17 | simp_all | omega))⟩)
  rintro _ (⟨rfl, h19, hD20⟩)
  have g19 : (((f.runP ([(⟨2, 0, (⟨#[]⟩)⟩ : Act), (⟨3, 0, (⟨#[]⟩)⟩ : Act), (⟨5, 0, (⟨#[]⟩)⟩ : Act)])).2.2) = 0) := by simpa using h19
  refine EL.reg0 ?_
  refine OW.end 2 (x' := ⟨(113, (slq47 f)) :: (slq57 i), [(slq49 f), none, (slq49 f)]⟩) (by kernel_rfl) (by kernel_rfl) ?_
  refine inBlk_norm ?_
  refine thenL_norm ?_
  refine EL.reg0 ?_
  refine OW.run 3 (x' := ⟨(12, VI (IntKind.i64.wrap (i + 1))) :: (88, VI (IntKind.i64.wrap (i + 1))) :: (slq58 i f), [(slq49 f), none, (slq49 f)]⟩) (by kernel_rfl) ?_
  have e21 : IntKind.i64.wrap (i + 1) = i + 1 := wr64 (by omega)
  rw [e21]
  refine OW.end 0 (x' := ⟨(12, VI (i + 1)) :: (88, VI (i + 1)) :: (slq58 i f), [(slq49 f), none, (slq49 f)]⟩) (by kernel_rfl) (by kernel_rfl) ?_
  refine thenL_norm ?_
  refine round_end (live := [5, 12]) (src := [.old 0 false]) (es := []) (y := (fun (i : Int) (f : Ship) => (⟨[(5, .ref 0 8 0 0), (12, VI i)], [(slq38 f)]⟩ : L3)) (i + 1) ((f.runP ([(⟨2, 0, (⟨#[]⟩)⟩ : Act), (⟨3, 0, (⟨#[]⟩)⟩ : Act), (⟨5, 0, (⟨#[]⟩)⟩ : Act)])).1)) ?_ trivial ?_ ⟨(i + 1), ((f.runP ([(⟨2, 0, (⟨#[]⟩)⟩ : Act), (⟨3, 0, (⟨#[]⟩)⟩ : Act), (⟨5, 0, (⟨#[]⟩)⟩ : Act)])).1), rfl, ?_, rfl⟩
  kernel_rfl
  omega
  focus (exact ⟨⟨m3, hr2⟩, by omega, by omega⟩)
  rw [h14]
  have g14 : ¬ (i < (List.length f.log : Int)) := of_decide_eq_false h14
  refine EL.condF (by kernel_rfl) ?_
  refine EL.exit ?_
  refine thenL_exit ?_
  refine thenL_exit ?_
  refine inBlk_hit ?_
  refine thenL_norm ?_
  refine EL.sreg ?_
  refine OW.run 4 (x' := ⟨(slq59 f i), [(slq38 f)]⟩) (by kernel_rfl) ?_
  refine OW.ope (v := VI (List.length f.log : Int)) (u := []) (acc := []) (x' := ⟨(118, VI (List.length f.log : Int)) :: (slq59 f i), [(slq38 f)]⟩) (by kernel_rfl) (opE_len Record.cs f.log (.s 117) 2 (by kernel_rfl) (by kernel_rfl) (.inl rfl)) (by kernel_rfl) ?_
  refine OW.run 2 (x' := ⟨(120, .v (.bool (f.applied == (List.length f.log : Int)))) :: (119, .v (.bool (f.applied == (List.length f.log : Int)))) :: (118, VI (List.length f.log : Int)) :: (slq59 f i), [(slq38 f)]⟩) (by kernel_rfl) ?_
  rcases Bool.eq_false_or_eq_true ((f.applied == (List.length f.log : Int))) with h22 | h22
  rw [h22]
  have g22 : (f.applied = (List.length f.log : Int)) := by simpa using h22
  refine OW.run 4 (x' := ⟨(slq60 f i), [(slq38 f)]⟩) (by kernel_rfl) ?_
  refine OW.ope (v := VI (List.length f.log : Int)) (u := []) (acc := []) (x' := ⟨(125, VI (List.length f.log : Int)) :: (slq60 f i), [(slq38 f)]⟩) (by kernel_rfl) (opE_len Record.cs f.log (.s 124) 2 (by kernel_rfl) (by kernel_rfl) (.inl rfl)) (by kernel_rfl) ?_
  refine OW.run 3 (x' := ⟨(128, .v (.bool (f.known == (List.length f.log : Int)))) :: (127, .v (.bool (f.known == (List.length f.log : Int)))) :: (126, .v (.bool (f.known == (List.length f.log : Int)))) :: (125, VI (List.length f.log : Int)) :: (slq60 f i), [(slq38 f)]⟩) (by kernel_rfl) ?_
  rcases Bool.eq_false_or_eq_true ((f.known == (List.length f.log : Int))) with h23 | h23
  rw [h23]
  have g23 : (f.known = (List.length f.log : Int)) := by simpa using h23
  refine OW.run 4 (x' := ⟨(slq61 f i), [(slq38 f)]⟩) (by kernel_rfl) ?_
  refine OW.fn (ar := [.lst 1 (f.first.map cZ), .lst 1 (f.second.map cZ)]) (x' := ⟨(133, .v (.bool (decide (f.first = f.second)))) :: (slq61 f i), [(slq38 f)]⟩) (by kernel_rfl) (by kernel_rfl) F22_call (sameTexts_fn f.first f.second (by first | omega | decide | exact (Ship.new_big _).2.1 | exact (Ship.new_big _).1 | exact (Ship.run_big _ _).2.1 | exact (Ship.run_big _ _).1 | exact (Ship.do_big _ _).2.1 | exact (Ship.do_big _ _).1 | exact (Ship.sail_big _ _).2.1 | exact (Ship.sail_big _ _).1 | (simp; omega))) (by kernel_rfl) (by kernel_rfl) ?_
  refine OW.last 2 [4] (x' := ⟨[(4, .v (.bool (decide (f.first = f.second))))], [(slq38 f)]⟩) (by kernel_rfl) (by kernel_rfl) ?_
  refine EL.ret ?_
  refine ⟨.inr rfl, .v (.bool (decide (f.first = f.second))), by kernel_rfl, Ale.of_eq ?_⟩
  focus (first | rfl | (exfalso; omega) | (exfalso; have h7 : (d.doP ⟨7, 0, ⟨#[]⟩⟩).2 = 0 := (by rw [(Ship.again_does hs2).1]); contradiction) | (have hfs := hc.sails.end_ (by omega); rw [hfs]; simp; done) | (exfalso; omega) | trace_state)
  rw [h23]
  have g23 : ¬ (f.known = (List.length f.log : Int)) := by simpa using h23
  refine OW.last 7 [4] (x' := ⟨[(4, .v (.bool false))], [(slq38 f)]⟩) (by kernel_rfl) (by kernel_rfl) ?_
  refine EL.ret ?_
  refine ⟨.inr rfl, .v (.bool false), by kernel_rfl, Ale.of_eq ?_⟩
  focus (first | rfl | (exfalso; omega) | (exfalso; have h7 : (d.doP ⟨7, 0, ⟨#[]⟩⟩).2 = 0 := (by rw [(Ship.again_does hs2).1]); contradiction) | (have hfs := hc.sails.end_ (by omega); rw [hfs]; simp; done) | (exfalso; omega) | trace_state)
  rw [h22]
  have g22 : ¬ (f.applied = (List.length f.log : Int)) := by simpa using h22
  refine OW.last 15 [4] (x' := ⟨[(4, .v (.bool false))], [(slq38 f)]⟩) (by kernel_rfl) (by kernel_rfl) ?_
  refine EL.ret ?_
  refine ⟨.inr rfl, .v (.bool false), by kernel_rfl, Ale.of_eq ?_⟩
  focus (first | rfl | (exfalso; omega) | (exfalso; have h7 : (d.doP ⟨7, 0, ⟨#[]⟩⟩).2 = 0 := (by rw [(Ship.again_does hs2).1]); contradiction) | (have hfs := hc.sails.end_ (by omega); rw [hfs]; simp; done) | (exfalso; omega) | trace_state)
  rw [h1]
  refine EL.condT (by kernel_rfl) ?_
  refine EL.sreg ?_
  refine OW.last 1 [4] (x' := ⟨[(4, .v (.bool true))], [(slq2 blocks l)]⟩) (by kernel_rfl) (by kernel_rfl) ?_
  refine EL.ret ?_
  refine thenL_ret ?_
  refine ⟨.inr rfl, .v (.bool true), by kernel_rfl, Ale.of_eq ?_⟩
  focus (first | rfl | (exfalso; omega) | (exfalso; have h7 : (d.doP ⟨7, 0, ⟨#[]⟩⟩).2 = 0 := (by rw [(Ship.again_does hs2).1]); contradiction) | (have hfs := hc.sails.end_ (by omega); rw [hfs]; simp; done) | (exfalso; omega) | trace_state)
theorem ShipLives_walk {w : World} (blocks : Int) (_wblocks : (Lit.int .i64 blocks).wf = true) (l : List Act) (Al : Option Addr) (nl cl : Nat) (rl : GoT.rep w w.heap.size [.slice Al nl cl] l) (zl : nl * 32 ≤ 140737488351232) : Calls Try.prog 8 #[I blocks, .slice Al nl cl] w fun e w' => e = .returned (.bool true) ∧ Below w.heap.size w w' := by
  have ll := rep_len rl
  exact fn_law (vs := [I blocks, .slice Al nl cl]) (shipLives_fn blocks l (by first | assumption | omega)) (.cons (.v rfl) (.cons (rep_list (fun x : Act => [I x.kind, I x.n, .string x.data]) _ Act.flat (fun _ => rfl) (by intro x v hv; simp at hv; rcases hv with rfl | rfl | rfl <;> exact ⟨rfl, rfl⟩) rl) (.nil)))
theorem ShipLives_own : ownKnob Try.prog.godebug = none := by kernel_rfl
theorem ShipLives_laidOut : laidOutB Try.prog = true := by kernel_rfl
set_option maxRecDepth 100000 in
set_option linter.unusedVariables false in
theorem ShipLives_lifted (os : Os) (started : os.Started) (H : Type) (enc : TypeId × Value → H) :
    ReturnsInHanded {} Try.checked os 8 .any (Rows.shipLivesSpec.pre6 enc Try.prog Try.f8 Rows.shipLivesRow.domain false) (Rows.shipLivesSpec.post enc Try.prog Try.f8 false true false false) := by
  refine returnsInHanded_of_change_sized (C := Try.checked) ShipLives_own started (by kernel_rfl) Try.func8
    (ChangeSpec.witness6 (enc := enc) (C := Try.checked) false ⟨#[], #[.int .i64 0, .slice none 0 0], []⟩ 8 (by kernel_rfl) (by kernel_rfl) (by kernel_rfl) (by kernel_rfl)) ?_
  intro W base args ds gs before hval0 hW hcnd hsz _
  have hval : ∀ (j : Nat) t v, Try.f8.params[j]? = some t → args[j]? = some v → Value.okWide Try.prog W .any base t v := hval0
  have hW' := hW
  obtain ⟨p, q, hA0, hV, rfl, hfz, hnd⟩ := hW
  have hA : DataW.TrodAll enc Try.prog W 0 (fun _ => true) true Try.f8.params.toList args.toList ds p := hA0
  rw [Try.params8] at hA hval hsz
  obtain ⟨v0, vs0, d0, ds0, p0, q0, hargs, rfl, rfl, h0, r0⟩ := trodAll_cons hA
  obtain ⟨v1, vs1, d1, ds1, p1, q1, rfl, rfl, rfl, h1, r1⟩ := trodAll_cons r0
  obtain ⟨rfl, rfl, rfl⟩ := trodAll_nil r1
  obtain rfl : args = #[v0, v1] := by cases args; simp_all
  obtain ⟨rfl, rfl⟩ := trodVars_none hV
  have k0 := h0
  have lt0 : ∀ x ∈ p0, x.block < W.heap.size := by obtain ⟨m, hm⟩ := k0; exact DataW.trod_lt m _ _ _ hm
  obtain ⟨a0, rfl, e0, e0', w0⟩ := open_int Try.underlying3 (hval 0 3 v0 rfl rfl) h0
  have k1 := h1
  have lt1 : ∀ x ∈ p1, x.block < W.heap.size := by obtain ⟨m, hm⟩ := k1; exact DataW.trod_lt m _ _ _ hm
  obtain ⟨x1, A1, n1, c1, rfl, w1⟩ := open_list opens_LAct Try.underlying37 (hval 1 37 v1 rfl rfl) h1
  have sz1 := sized_list hsz 1 rfl rfl Try.underlying37 h1 32 (by kernel_rfl)
  clear hA0 hval0
  refine (ShipLives_walk (w := W) a0 w0 x1 A1 n1 c1 w1 sz1).mono fun e W' ⟨he, bel⟩ => ?_
  subst he
  exact ⟨_, rfl, _, _, _, [], _, [], hW', trodAll_mk1 (shut_bool Try.underlying4 _), (trodAll_cons_mk (Below.trod ShipLives_laidOut (by kernel_rfl) (of_decide_eq_true (by kernel_rfl)) k0 bel lt0) (trodAll_cons_mk (Below.trod ShipLives_laidOut (by kernel_rfl) (of_decide_eq_true (by kernel_rfl)) k1 bel lt1) trodAll_mk0)), rfl, bel.frame _, fun h => by cases h⟩
set_option maxRecDepth 100000 in
set_option maxHeartbeats 4000000 in
theorem ShipLives_closed : joinedFacts Try.prog 8 Try.f8 Rows.shipLivesSpec Rows.shipLivesRow = true := by
  unfold joinedFacts
  repeat' (with_reducible refine and_tt ?_ ?_)
  all_goals as_aux_lemma => kernel_rfl
theorem ShipLives_over : Rows.shipLivesRow.holds Try.pinned (OpenSpec.ofChange Rows.shipLivesSpec) :=
  OpenClaim.holds_of_wide 8 Try.f8 rfl rfl rfl rfl rfl rfl rfl ⟨rfl, rfl, rfl, rfl, rfl⟩ rfl rfl rfl rfl rfl (by as_aux_lemma => kernel_rfl) Try.func8 ShipLives_closed
    (of_decide_eq_true (by as_aux_lemma => kernel_rfl)) (by unfold Func.isWrapper; rw [if_neg (of_decide_eq_false (by as_aux_lemma => kernel_rfl))]; exact ⟨rfl, rfl⟩)
    (fun os started H enc _ => ShipLives_lifted os started H enc)
theorem ShipLives_holds : Rows.ShipLivesSaid := ShipLives_over
end Go.Proofs.Ythdcanpbgaaneaa
